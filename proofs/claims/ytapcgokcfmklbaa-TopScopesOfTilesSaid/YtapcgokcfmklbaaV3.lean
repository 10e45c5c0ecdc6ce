/-
  Part 3 of what the proof leans on (Num, Bands, C14, Open2, Matte, Dbl, Dbl2, Dbl3, Dbl4, Dbl5, Dbl6, Dbl7, Win, G1, G2, Near, KFr, G3, Ops3, Str, Eq2, Pts, G4, KMem, G5, G6, Trk, G7, KBet, Any2, G8, KMov, G9, KRow, G10, KLen, Whl, Whl2, Whl3, Whl4, Whl5, H1, H2, Whl6, Bin1, Sm, Bin2, Bin3, H3). Conditions: as each theorem says.
-/
import Derived.Test.YtapcgokcfmklbaaV2
import Derived.Lib.AppendStr
import Derived.Lib.UnsafeStr
import Derived.Laws.Strings
namespace Go.Proofs.Ytapcgokcfmklbaa
open Go Go.RowKit

theorem num_bd {b : Nat} {s : Bool} {m : Nat} {p : Int} (h : Ieee.single.read b = .number s m p) : m ≤ 16777215 ∧ p ≤ 104 ∧ -149 ≤ p := by
  have e2 : Ieee.single.binade = 8388608 := rfl
  have e3 : Ieee.single.infRung = 2139095040 := rfl
  have e4 : Ieee.single.leastPlace = -149 := rfl
  unfold Ieee.Format.read at h
  simp only [e2, e3, e4] at h
  split at h
  · cases h; omega
  · split at h
    · cases h; omega
    · split at h <;> cases h
/-- is it a number: no NaN and no infinity -/
def numB (b : Nat) : Bool := match Ieee.single.read b with
  | .number .. => true
  | _ => false
theorem numB_nan {b : Nat} (h : nan32 b = true) : numB b = false := by
  obtain ⟨s, f, e⟩ := read_nan h
  unfold numB; rw [e]
theorem nan_of_num {b : Nat} (h : numB b = true) : nan32 b = false := by
  cases e : nan32 b
  · rfl
  · rw [numB_nan e] at h; cases h
theorem feq_self (b : Nat) : fcmpB .eql b b = !nan32 b := by
  unfold fcmpB
  cases h : nan32 b
  · rw [order_self h]; rfl
  · rw [order_nan (.inl h)]; rfl
theorem read_max : Ieee.single.read 2139095039 = .number false 16777215 104 := by decide +kernel
theorem read_min : Ieee.single.read 4286578687 = .number true 16777215 104 := by decide +kernel
theorem signed_le {s : Bool} {m k : Nat} {M : Nat} (h : m ≤ M) : Ieee.signed s m 0 ≤ Ieee.signed false M k ∧ Ieee.signed true M k ≤ Ieee.signed s m 0 := by
  have h1 : m ≤ M <<< k := Nat.le_trans h (by rw [Nat.shiftLeft_eq]; exact Nat.le_mul_of_pos_right _ (Nat.two_pow_pos k))
  unfold Ieee.signed
  simp only [Nat.shiftLeft_zero]
  generalize M <<< k = z at *
  cases s <;> simp <;> omega
theorem inf_num {b : Nat} (h : numB b = true) : fcmpB .gtr b 2139095039 = false ∧ fcmpB .lss b 4286578687 = false := by
  unfold numB at h
  split at h
  · rename_i s m p e
    have hb := num_bd e
    unfold fcmpB Ieee.Format.order
    rw [e, read_max, read_min]
    simp only [Ieee.Datum.order]
    have e1 : min p 104 = p := by omega
    rw [e1]
    have e2 : (p - p).toNat = 0 := by omega
    rw [e2]
    have h1 := signed_le (s := s) (k := (104 - p).toNat) hb.1
    refine ⟨?_, ?_⟩
    · have : compare (Ieee.signed s m 0) (Ieee.signed false 16777215 (104 - p).toNat) ≠ .gt := fun hc => by rw [Int.compare_eq_gt] at hc; omega
      cases hc : compare (Ieee.signed s m 0) (Ieee.signed false 16777215 (104 - p).toNat) <;> simp_all
    · have : compare (Ieee.signed s m 0) (Ieee.signed true 16777215 (104 - p).toNat) ≠ .lt := fun hc => by rw [Int.compare_eq_lt] at hc; omega
      cases hc : compare (Ieee.signed s m 0) (Ieee.signed true 16777215 (104 - p).toNat) <;> simp_all
  · cases h
theorem inf_inf {b : Nat} (h : numB b = false) (hn : nan32 b = false) : (fcmpB .gtr b 2139095039 || fcmpB .lss b 4286578687) = true := by
  rcases read_num hn with ⟨s, m, p, e⟩ | ⟨s, e⟩
  · unfold numB at h; rw [e] at h; cases h
  · unfold fcmpB Ieee.Format.order
    rw [e, read_max, read_min]
    cases s <;> rfl
/-- v == v, and not above the greatest and not below the least -/
theorem isnum_1 (b : Nat) : (fcmpB .eql b b && !(fcmpB .gtr b 2139095039 || fcmpB .lss b 4286578687)) = numB b := by
  rw [feq_self]
  cases hn : nan32 b
  · cases h : numB b
    · rw [inf_inf h hn]; rfl
    · rw [(inf_num h).1, (inf_num h).2]; rfl
  · rw [numB_nan hn]; rfl
theorem sub_self {b : Nat} (h : numB b = true) : fop .sub b b = some 0 := by
  unfold numB at h
  split at h
  · rename_i s m p e
    show Ieee.single.sub b b = _
    unfold Ieee.Format.sub
    rw [e]
    have e2 : (p - min p p).toNat = 0 := by omega
    have e3 : Ieee.signed s m 0 + Ieee.signed (!s) m 0 = 0 := by unfold Ieee.signed; cases s <;> simp <;> omega
    simp only [Ieee.Datum.opposite, Ieee.Datum.sum, e2, e3, if_true, Option.map_some, Int.natAbs_zero]
    have e4 : (s && !s) = false := by cases s <;> rfl
    rw [e4]
    simp only [Ieee.Format.write, Ieee.Format.nearest, if_true]
    rfl
  · cases h
/-- a weighted sum -/
def lumaV (w q : Nat → Nat) : Nat := fo .add (fo .add (fo .mul (w 0) (q 0)) (fo .mul (w 1) (q 1))) (fo .mul (w 2) (q 2))
theorem luma_of {w q : Nat → Nat} {a b c d e : Nat} (h1 : FR (fop .mul (w 0) (q 0)) a) (h2 : FR (fop .mul (w 1) (q 1)) b) (h3 : FR (fop .add a b) c) (h4 : FR (fop .mul (w 2) (q 2)) d) (h5 : FR (fop .add c d) e) : cl e = lumaV w q := by
  unfold lumaV
  refine h5.cl' ?_ (h4.cl.trans (cl_fo _ _ _).symm)
  exact (h3.cl' (h1.cl.trans (cl_fo _ _ _).symm) (h2.cl.trans (cl_fo _ _ _).symm)).trans (cl_fo _ _ _).symm
/-- all of a row are numbers -/
def numsB (l : List Nat) : Bool := l.all numB
theorem nums_T {l : List Nat} (h : ∀ i (hi : i < l.length), numB l[i] = true) : true = numsB l := by
  symm
  unfold numsB
  rw [List.all_eq_true]
  intro x hx
  obtain ⟨i, hi, rfl⟩ := List.getElem_of_mem hx
  exact h i hi
theorem nums_F {l : List Nat} {i : Nat} (hi : i < l.length) (h : numB l[i] = false) : false = numsB l := by
  symm
  unfold numsB
  rw [List.all_eq_false]
  exact ⟨l[i], List.getElem_mem hi, by rw [h]; decide⟩
end Go.Proofs.Ytapcgokcfmklbaa

namespace Go.Proofs.Ytapcgokcfmklbaa
open Go Go.RowKit

/-- the first error of n things -/
def firstE (f : Nat → Int) : Nat → Int
  | 0 => 0
  | n + 1 => if firstE f n ≠ 0 then firstE f n else f n
/-- what is wrong with bands: five numbers each -/
def bandE (xs : List Nat) (i : Nat) : Int := if numB (xs.getD (5 * i) 0) = false then 2 else if 0 < i ∧ fcmpB .gtr (xs.getD (5 * i) 0) (xs.getD (5 * (i - 1)) 0) = false then 8 else 0
def bandsE (xs : List Nat) (n : Nat) : Int := if n = 0 then 10 else if 32 < n then 4 else firstE (bandE xs) n
/-- the colour of a luma -/
def fourF (a b c d : Nat) : Nat → Nat
  | 0 => a
  | 1 => b
  | 2 => c
  | _ => d
def falseQ (xs : List Nat) (l a : Nat) : Nat → Nat → Nat
  | 0 => fourF l l l a
  | k + 1 => if fcmpB .leq (xs.getD (5 * k) 0) l then fun c => xs.getD (5 * k + 1 + c) 0 else falseQ xs l a k
/-- stripes -/
def zebQ (x y wd : Int) (lv : Nat) (l : Nat) (q : Nat → Nat) : Nat → Nat := if fcmpB .geq l lv then (if (x + y) / wd % 2 = 0 then fourF 1065353216 1065353216 1065353216 (q 3) else fourF 0 0 0 (q 3)) else q
/-- an integer as a float -/
def cvF (n : Int) : Nat := FloatKind.f32.nearest n
section
variable {P : Program} {W : World} {H : HL} {e : Env} {x : Operand} {t t' ty : TypeId}
theorem QO.conv_i64_f32 {n : Int} (hu : P.underlying t = some (.int .i64)) (hu' : P.underlying t' = some (.float .f32)) (hx : ev e x = .int .i64 n) : QO P W H e (.convert t t' x) ty (flt (cvF n)) := fun d pos af gd w _ => by
  simp only [execOp, hx, Sem.run_bind, Sem.run_pure]
  simp [convert, run_underlying hu, run_underlying hu', Conv.intToFloat, cvF]
end
/-- what is wrong with a call of False, of Zebra -/
def falE (ok : Bool) (e : Int) : Int := if ok = false then 2 else e
def falT (bs : List Nat) (u : Nat → Nat) (nb : Nat) (q : Nat → Nat) : Nat → Nat := falseQ bs (lumaV u q) (q 3) nb
def zebE (ok ok2 : Bool) (wd : Int) : Int := if ok = false ∨ ok2 = false then 2 else if wd < 1 ∨ 64 < wd then 3 else 0
end Go.Proofs.Ytapcgokcfmklbaa

namespace Go.Proofs.Ytapcgokcfmklbaa
open Go Go.Proofs Go.RowKit

theorem ty169 : tyChk Try.prog 169 = some ([.float .f32 0, .float .f32 0, .float .f32 0], true, 12) := by kernel_rfl
theorem ok128 : callOK Try.prog 128 = true := by kernel_rfl
theorem ok151 : callOK Try.prog 151 = true := by kernel_rfl
theorem ok114 : callOK Try.prog 114 = true := by kernel_rfl
theorem ok109 : callOK Try.prog 109 = true := by kernel_rfl

set_option maxRecDepth 100000 in
theorem infinite (v : Nat) (W : World) : Fn_ Try.prog 114 #[flt v] W (fun v_ H => v_ = .bool (fcmpB .gtr v 2139095039 || fcmpB .lss v 4286578687) ∧ H = []) := by
  refine Fn_.intro Try.func114 rfl rfl (by rfl) ?_
  refine CS.seq ?_
  refine CS.region ?_
  refine RS.q rfl (QO.assign) ?_
  refine RS.nil ?_
  refine thenC_n ?_
  refine CS.seq ?_
  refine CS.region ?_
  refine RS.q rfl (QO.move) ?_
  refine RS.q rfl (QO.fcmp32 (by rfl) (by rfl) (by simp)) ?_
  refine RS.q rfl (QO.move) ?_
  refine RS.split (dj := 5) (by rfl) (fun hb0 => ?_) (fun hb0 => ?_)
  · refine RS.off (dj := 5) rfl (.inl (congrArg Value.bool hb0)) (fun _ => rfl) rfl ?_
    refine RS.off (dj := 5) rfl (.inl (congrArg Value.bool hb0)) (fun _ => rfl) rfl ?_
    refine RS.q rfl (QO.pickT (by rfl) hb0 (by rfl)) ?_
    refine RS.q rfl (QO.assign) ?_
    refine RS.nil ?_
    refine thenC_n ?_
    refine CS.ret ?_
    refine retQ.mk (H' := []) (.inr rfl) (RVs.tmp (by rfl) RVs.nil) (List.nil_sublist _) ?_
    exact ⟨congrArg Value.bool (by rw [hb0]; rfl), rfl⟩
  · refine RS.on (dj := 5) rfl (congrArg Value.bool hb0) ?_
    refine RS.q rfl (QO.move) ?_
    refine RS.on (dj := 5) rfl (congrArg Value.bool hb0) ?_
    refine RS.q rfl (QO.fcmp32 (by rfl) (by rfl) (by simp)) ?_
    refine RS.q rfl (QO.pickF (by rfl) hb0 (by rfl)) ?_
    refine RS.q rfl (QO.assign) ?_
    refine RS.nil ?_
    refine thenC_n ?_
    refine CS.ret ?_
    refine retQ.mk (H' := []) (.inr rfl) (RVs.tmp (by rfl) RVs.nil) (List.nil_sublist _) ?_
    exact ⟨congrArg Value.bool (by rw [hb0]; rfl), rfl⟩

set_option maxRecDepth 100000 in
theorem isNumber (v : Nat) (W : World) : Fn_ Try.prog 151 #[flt v] W (fun v_ H => v_ = .bool (numB v) ∧ H = []) := by
  refine Fn_.intro Try.func151 rfl rfl (by rfl) ?_
  refine CS.seq ?_
  refine CS.region ?_
  refine RS.q rfl (QO.assign) ?_
  refine RS.nil ?_
  refine thenC_n ?_
  refine CS.seq ?_
  refine CS.region ?_
  refine RS.q rfl (QO.move) ?_
  refine RS.q rfl (QO.move) ?_
  refine RS.q rfl (QO.fcmp32 (by rfl) (by rfl) (by simp)) ?_
  refine RS.q rfl (QO.move) ?_
  refine RS.split (dj := 6) (by rfl) (fun hb0 => ?_) (fun hb0 => ?_)
  · refine RS.on (dj := 6) rfl (congrArg Value.bool hb0) ?_
    refine RS.q rfl (QO.move) ?_
    refine RS.on (dj := 6) rfl (congrArg Value.bool hb0) ?_
    refine RS.call rfl (by rfl) ok114 (by rfl) (fun w ho => infinite _ _) ?_
    rintro _ _ ⟨rfl, rfl⟩
    refine RS.on (dj := 6) rfl (congrArg Value.bool hb0) ?_
    refine RS.q rfl (QO.not (by rfl)) ?_
    refine RS.q rfl (QO.pickT (by rfl) hb0 (by rfl)) ?_
    refine RS.q rfl (QO.assign) ?_
    refine RS.nil ?_
    refine thenC_n ?_
    refine CS.ret ?_
    refine retQ.mk (H' := []) (.inr rfl) (RVs.tmp (by rfl) RVs.nil) (List.nil_sublist _) ?_
    exact ⟨congrArg Value.bool (by rw [← isnum_1, hb0]; rfl), rfl⟩
  · refine RS.off (dj := 6) rfl (.inl (congrArg Value.bool hb0)) (fun _ => rfl) rfl ?_
    refine RS.off (dj := 6) rfl (.inl (congrArg Value.bool hb0)) (fun _ => rfl) rfl ?_
    refine RS.off (dj := 6) rfl (.inl (congrArg Value.bool hb0)) (fun _ => rfl) rfl ?_
    refine RS.q rfl (QO.pickF (by rfl) hb0 (by rfl)) ?_
    refine RS.q rfl (QO.assign) ?_
    refine RS.nil ?_
    refine thenC_n ?_
    refine CS.ret ?_
    refine retQ.mk (H' := []) (.inr rfl) (RVs.tmp (by rfl) RVs.nil) (List.nil_sublist _) ?_
    exact ⟨congrArg Value.bool (by rw [← isnum_1, hb0]; rfl), rfl⟩

set_option maxRecDepth 100000 in
theorem allNumbers (A : Option Addr) (n c : Nat) (xs : List Nat) (W : World) (hn : xs.length = n) (hA : FS W A xs) (hm : n ≤ maxLen) : Fn_ Try.prog 128 #[.slice A n c] W (fun v H => v = .bool (numsB xs) ∧ H = []) := by
  subst hn
  unfold maxLen at hm
  refine Fn_.intro Try.func128 rfl rfl (by rfl) ?_
  refine CS.seq ?_
  refine CS.region ?_
  refine RS.q rfl (QO.assign) ?_
  refine RS.nil ?_
  refine thenC_n ?_
  refine CS.seq ?_
  refine CS.seq ?_
  refine CS.region ?_
  refine RS.q rfl (QO.move) ?_
  refine RS.q rfl (QO.lenS Try.underlying24 (by rfl)) ?_
  refine RS.q rfl (QO.move) ?_
  refine RS.nil ?_
  refine thenC_n ?_
  refine CS.block ?_
  refine CS.loop (X := Nat) [2, 4, 7, 8, 9, 10, 11, 12, 13, 14] (fun k => [(7, iv (k : Int))]) (fun k => []) (fun k => k ≤ xs.length ∧ ∀ i (hi : i < xs.length), i < k → numB xs[i] = true) (fun k => xs.length - k) 0 ⟨Nat.zero_le _, fun i hi h => absurd h (Nat.not_lt_zero _)⟩ ?_ ?_ ?_
  · exact (by repeat (first | exact kn_nil | refine kn_cons (by rfl) ?_))
  · exact (by repeat (first | exact List.Sublist.refl _ | exact List.nil_sublist _ | refine List.Sublist.cons_cons _ ?_ | refine List.Sublist.cons _ ?_ | exact Sbp.refl | exact Sbp.nil | refine Sbp.cons (by repeat (first | exact Rem.head | apply Rem.tail)) ?_ | exact Sbp.app | refine Sbp.skip ?_))
  · intro k gj2 hz
    obtain ⟨hk, hz⟩ := hz
    refine CS.seq ?_
    refine CS.region ?_
    refine RS.q rfl (QO.lss (by rfl) (by rfl)) ?_
    refine RS.nil ?_
    refine thenC_n ?_
    refine CS.seq ?_
    refine CS.cond (by rfl) (fun hb0 => ?_) (fun hb0 => ?_)
    · have hb0p := of_decide_eq_true hb0
      refine CS.skip ?_
      refine thenC_n ?_
      refine CS.seq ?_
      refine CS.block ?_
      refine CS.seq ?_
      refine CS.region ?_
      have hlt : k < xs.length := by omega
      obtain ⟨bA, oA, rfl, hcell⟩ := hA (by omega)
      first | (refine RS.q rfl (QO.idx0 Try.underlying24 ty29 (by rfl) (by rfl) (by rfl) (by omega)) ?_) | (refine RS.q rfl (QO.idxn Try.underlying24 ty29 (by rfl) (by rfl) (by rfl) (by omega)) ?_) | (refine RS.q rfl (QO.idx1 Try.underlying24 ty29 (by rfl) (by rfl) (by omega) (by omega)) ?_)
      refine RS.q rfl (QO.loadO ty29 (by rfl) (hcell _ _ (List.getElem?_eq_getElem hlt))) ?_
      refine RS.q rfl (QO.assign) ?_
      refine RS.nil ?_
      refine thenC_n ?_
      refine CS.seq ?_
      refine CS.region ?_
      refine RS.q rfl (QO.move) ?_
      refine RS.call rfl (by rfl) ok151 (by rfl) (fun w ho => isNumber _ _) ?_
      rintro _ _ ⟨rfl, rfl⟩
      refine RS.q rfl (QO.not (by rfl)) ?_
      refine RS.nil ?_
      refine thenC_n ?_
      refine CS.cond (by rfl) (fun hb1 => ?_) (fun hb1 => ?_)
      · have hb1p := Eq.mp (Bool.not_eq_true' _) hb1
        refine CS.seq ?_
        refine CS.region ?_
        refine RS.q rfl (QO.assign) ?_
        refine RS.nil ?_
        refine thenC_n ?_
        refine CS.ret ?_
        refine blockC_r ?_
        refine thenC_r ?_
        refine loopQ_r ?_
        refine blockC_r ?_
        refine thenC_r ?_
        refine retQ.mk (H' := []) (.inr rfl) (RVs.tmp (by rfl) RVs.nil) (List.nil_sublist _) ?_
        exact ⟨congrArg Value.bool (nums_F hlt hb1p), rfl⟩
      · have hb1p := Eq.mp (Bool.not_eq_false' _) hb1
        refine CS.skip ?_
        refine blockC_n ?_
        refine thenC_n ?_
        refine CS.region ?_
        first | (refine RS.q rfl (QO.add (by rfl) (by rfl) (by omega) (by omega)) ?_) | (refine RS.q rfl (QO.ibin (by rfl) (by rfl) trivial) ?_)
        refine RS.q rfl (QO.move) ?_
        refine RS.nil ?_
        refine loopQ_n (by intro t ht; repeat (first | with_reducible exact rfl | exact frame_puts ht (frame_mix ht) _ rfl | (refine frame_put rfl ht ?_) | (refine frame_puts ht ?_ _ rfl) | exact frame_mix ht | (refine frame_mix2 rfl ht ?_) | exact rfl)) ?_
        exact ⟨k + 1, ⟨by omega, fun i hi h => by
            by_cases e : i = k
            · subst e; exact hb1p
            · exact hz i hi (by omega)⟩, by omega, (by repeat (first | exact kn_nil | refine kn_cons (by rfl) ?_)), (by repeat (first | exact List.Sublist.refl _ | exact List.nil_sublist _ | refine List.Sublist.cons_cons _ ?_ | refine List.Sublist.cons _ ?_ | exact Sbp.refl | exact Sbp.nil | refine Sbp.cons (by repeat (first | exact Rem.head | apply Rem.tail)) ?_ | exact Sbp.app | refine Sbp.skip ?_))⟩
    · have hb0p := of_decide_eq_false hb0
      refine CS.exit ?_
      refine thenC_x ?_
      refine loopQ_x ?_
      refine blockC_x ?_
      refine thenC_n ?_
      refine CS.seq ?_
      refine CS.region ?_
      refine RS.q rfl (QO.assign) ?_
      refine RS.nil ?_
      refine thenC_n ?_
      refine CS.ret ?_
      refine retQ.mk (H' := []) (.inr rfl) (RVs.tmp (by rfl) RVs.nil) (List.nil_sublist _) ?_
      exact ⟨congrArg Value.bool (nums_T fun i hi => hz i hi (by omega)), rfl⟩

set_option maxRecDepth 100000 in
theorem luma_ (u q : Nat → Nat) (W : World) : Fn_ Try.prog 109 #[.agg #[flt (u 0), flt (u 1), flt (u 2)], pxv q] W (fun v H => v = flt (lumaV u q) ∧ H = []) := by
  refine Fn_.intro Try.func109 rfl rfl (by rfl) ?_
  refine CS.seq ?_
  refine CS.region ?_
  refine RS.box rfl (by rfl) (by rfl) ?_
  intro g2
  refine RS.box rfl (by rfl) (by rfl) ?_
  intro g3
  refine RS.q rfl (QO.assign) ?_
  refine RS.nil ?_
  refine thenC_n ?_
  refine CS.seq ?_
  refine CS.region ?_
  first | (refine RS.q rfl (QO.idxArr0 Try.underlying169 ty29 (by rfl) (by rfl) (by rfl) (by omega)) ?_) | (refine RS.q rfl (QO.idxArrn Try.underlying169 ty29 (by rfl) (by rfl) (by rfl) (by omega)) ?_) | (refine RS.q rfl (QO.idxArr Try.underlying169 ty29 (by rfl) (by rfl) (by omega) (by omega)) ?_)
  first | (refine RS.q rfl (QO.load ty29 (by rfl) (by repeat (first | exact List.Mem.head _ | refine List.Mem.tail _ ?_)) (by rfl)) ?_) | (refine RS.q rfl (QO.loadO ty29 (by rfl) (by assumption)) ?_) | (refine RS.q rfl (QO.load ty29 (by rfl) (by repeat (first | exact List.Mem.head _ | refine List.Mem.tail _ ?_)) (by assumption)) ?_)
  first | (refine RS.q rfl (QO.idxArr0 Try.underlying172 ty29 (by rfl) (by rfl) (by rfl) (by omega)) ?_) | (refine RS.q rfl (QO.idxArrn Try.underlying172 ty29 (by rfl) (by rfl) (by rfl) (by omega)) ?_) | (refine RS.q rfl (QO.idxArr Try.underlying172 ty29 (by rfl) (by rfl) (by omega) (by omega)) ?_)
  first | (refine RS.q rfl (QO.load ty29 (by rfl) (by repeat (first | exact List.Mem.head _ | refine List.Mem.tail _ ?_)) (by rfl)) ?_) | (refine RS.q rfl (QO.loadO ty29 (by rfl) (by assumption)) ?_) | (refine RS.q rfl (QO.load ty29 (by rfl) (by repeat (first | exact List.Mem.head _ | refine List.Mem.tail _ ?_)) (by assumption)) ?_)
  refine RS.farith rfl (by rfl) (by rfl) (by simp) ?_
  intro r9 hr9
  first | (refine RS.q rfl (QO.idxArr0 Try.underlying169 ty29 (by rfl) (by rfl) (by rfl) (by omega)) ?_) | (refine RS.q rfl (QO.idxArrn Try.underlying169 ty29 (by rfl) (by rfl) (by rfl) (by omega)) ?_) | (refine RS.q rfl (QO.idxArr Try.underlying169 ty29 (by rfl) (by rfl) (by omega) (by omega)) ?_)
  first | (refine RS.q rfl (QO.load ty29 (by rfl) (by repeat (first | exact List.Mem.head _ | refine List.Mem.tail _ ?_)) (by rfl)) ?_) | (refine RS.q rfl (QO.loadO ty29 (by rfl) (by assumption)) ?_) | (refine RS.q rfl (QO.load ty29 (by rfl) (by repeat (first | exact List.Mem.head _ | refine List.Mem.tail _ ?_)) (by assumption)) ?_)
  first | (refine RS.q rfl (QO.idxArr0 Try.underlying172 ty29 (by rfl) (by rfl) (by rfl) (by omega)) ?_) | (refine RS.q rfl (QO.idxArrn Try.underlying172 ty29 (by rfl) (by rfl) (by rfl) (by omega)) ?_) | (refine RS.q rfl (QO.idxArr Try.underlying172 ty29 (by rfl) (by rfl) (by omega) (by omega)) ?_)
  first | (refine RS.q rfl (QO.load ty29 (by rfl) (by repeat (first | exact List.Mem.head _ | refine List.Mem.tail _ ?_)) (by rfl)) ?_) | (refine RS.q rfl (QO.loadO ty29 (by rfl) (by assumption)) ?_) | (refine RS.q rfl (QO.load ty29 (by rfl) (by repeat (first | exact List.Mem.head _ | refine List.Mem.tail _ ?_)) (by assumption)) ?_)
  refine RS.farith rfl (by rfl) (by rfl) (by simp) ?_
  intro r14 hr14
  refine RS.farith rfl (by rfl) (by rfl) (by simp) ?_
  intro r15 hr15
  first | (refine RS.q rfl (QO.idxArr0 Try.underlying169 ty29 (by rfl) (by rfl) (by rfl) (by omega)) ?_) | (refine RS.q rfl (QO.idxArrn Try.underlying169 ty29 (by rfl) (by rfl) (by rfl) (by omega)) ?_) | (refine RS.q rfl (QO.idxArr Try.underlying169 ty29 (by rfl) (by rfl) (by omega) (by omega)) ?_)
  first | (refine RS.q rfl (QO.load ty29 (by rfl) (by repeat (first | exact List.Mem.head _ | refine List.Mem.tail _ ?_)) (by rfl)) ?_) | (refine RS.q rfl (QO.loadO ty29 (by rfl) (by assumption)) ?_) | (refine RS.q rfl (QO.load ty29 (by rfl) (by repeat (first | exact List.Mem.head _ | refine List.Mem.tail _ ?_)) (by assumption)) ?_)
  first | (refine RS.q rfl (QO.idxArr0 Try.underlying172 ty29 (by rfl) (by rfl) (by rfl) (by omega)) ?_) | (refine RS.q rfl (QO.idxArrn Try.underlying172 ty29 (by rfl) (by rfl) (by rfl) (by omega)) ?_) | (refine RS.q rfl (QO.idxArr Try.underlying172 ty29 (by rfl) (by rfl) (by omega) (by omega)) ?_)
  first | (refine RS.q rfl (QO.load ty29 (by rfl) (by repeat (first | exact List.Mem.head _ | refine List.Mem.tail _ ?_)) (by rfl)) ?_) | (refine RS.q rfl (QO.loadO ty29 (by rfl) (by assumption)) ?_) | (refine RS.q rfl (QO.load ty29 (by rfl) (by repeat (first | exact List.Mem.head _ | refine List.Mem.tail _ ?_)) (by assumption)) ?_)
  refine RS.farith rfl (by rfl) (by rfl) (by simp) ?_
  intro r20 hr20
  refine RS.farith rfl (by rfl) (by rfl) (by simp) ?_
  intro r21 hr21
  refine RS.call rfl (by rfl) ok57 (by rfl) (fun w ho => clean _ _) ?_
  rintro _ _ ⟨rfl, rfl⟩
  refine RS.q rfl (QO.assign) ?_
  refine RS.nil ?_
  refine thenC_n ?_
  refine CS.ret ?_
  refine retQ.mk (H' := []) (.inr rfl) (RVs.tmp (by rfl) RVs.nil) (List.nil_sublist _) ?_
  exact ⟨congrArg flt (luma_of hr9 hr14 hr15 hr20 hr21), rfl⟩

end Go.Proofs.Ytapcgokcfmklbaa

namespace Go.Proofs.Ytapcgokcfmklbaa
open Go Go.ChangeShapes Go.WideShapes Go.RowKit

section
variable {H : Type} {enc : TypeId × Value → H} {P : Program} {w : World} {base : Nat} {spare : Nat → Bool} {held : Bool}
theorem All2.get {α β : Type} {R : α → β → Prop} : ∀ {a : List α} {b : List β} (_ : All2 R a b) (i : Nat) (x : α) (y : β), a[i]? = some x → b[i]? = some y → R x y
  | [], [], _, i, x, y, h, _ => by simp at h
  | a :: l, b :: m, h, 0, x, y, h1, h2 => by
    simp at h1 h2
    subst h1 h2
    exact h.1
  | a :: l, b :: m, h, i + 1, x, y, h1, h2 => All2.get h.2 i x y (by simpa using h1) (by simpa using h2)
end
end Go.Proofs.Ytapcgokcfmklbaa

namespace Go.Proofs.Ytapcgokcfmklbaa
open Go Go.RowKit

/-- the value of a number, in units of the least one -/
def fval (b : Nat) : Int := match Ieee.single.read b with
  | .number s m p => Ieee.signed s m (p + 149).toNat
  | _ => 0
theorem signed_shift (s : Bool) (m a k : Nat) : Ieee.signed s m (a + k) = Ieee.signed s m a * 2 ^ k := by
  unfold Ieee.signed
  have h : ((m <<< (a + k) : Nat) : Int) = ((m <<< a : Nat) : Int) * 2 ^ k := by
    rw [Nat.shiftLeft_eq, Nat.shiftLeft_eq, Nat.pow_add, ← Nat.mul_assoc]
    push_cast; rfl
  cases s
  · simpa using h
  · simp only [if_true]
    rw [h, Int.neg_mul]
theorem cmp_self (x : Int) : compare x x = .eq := Int.compare_eq_eq.2 rfl
theorem compare_scale (x y : Int) (k : Nat) : compare (x * 2 ^ k) (y * 2 ^ k) = compare x y := by
  have hk : (0 : Int) < 2 ^ k := Int.pow_pos (by decide)
  rcases Int.lt_trichotomy x y with h | h | h
  · rw [Int.compare_eq_lt.2 h, Int.compare_eq_lt.2 (Int.mul_lt_mul_of_pos_right h hk)]
  · subst h; rw [cmp_self, cmp_self]
  · rw [Int.compare_eq_gt.2 h, Int.compare_eq_gt.2 (Int.mul_lt_mul_of_pos_right h hk)]
theorem order_fval {a b : Nat} (ha : numB a = true) (hb : numB b = true) : Ieee.single.order a b = some (compare (fval a) (fval b)) := by
  unfold numB at ha hb
  split at ha
  · rename_i s m p ea
    split at hb
    · rename_i t n q eb
      have h1 := num_bd ea
      have h2 := num_bd eb
      unfold Ieee.Format.order fval
      rw [ea, eb]
      simp only [Ieee.Datum.order]
      have e1 : (p + 149).toNat = (p - min p q).toNat + (min p q + 149).toNat := by omega
      have e2 : (q + 149).toNat = (q - min p q).toNat + (min p q + 149).toNat := by omega
      rw [e1, e2, signed_shift, signed_shift, compare_scale]
    · cases hb
  · cases ha
/-- the share k/1024 -/
def qk (k : Nat) : Nat := (fop .quo (cvF (k : Int)) 1149239296).getD 0
/-! ### greatest and least of a list -/
/-- the first of the greatest (least) of a row -/
def bestG (op : BinOp) (l : List Nat) : Nat := l.foldl (fun b v => if fcmpB op v b then v else b) (l.getD 0 0)
def maxK (l : List Nat) : Nat := l.foldl max (l.getD 0 0)
def minK (l : List Nat) : Nat := l.foldl min (l.getD 0 0)
/-! ### squares -/
/-- the numbers of the square behind place i of a smaller matte (W' wide) of one that is W wide -/
def sqL (g : Nat → Nat) (side W W' i : Nat) (n : Nat) : List Nat := (List.range n).map fun t => g ((i / W' + t / side) * W + i % W' + t % side)
/-- a matte of numbers: f of column and row -/
def matV (f : Nat → Nat → Nat) (W N : Nat) : List Nat := (List.range N).map fun i => qk (f (i % W) (i / W))
/-- the values of a square -/
def sqF (f : Nat → Nat → Nat) (side x y : Nat) : List Nat := (List.range (side * side)).map fun t => f (x + t % side) (y + t / side)
def mxS (side : Nat) (f : Nat → Nat → Nat) (x y : Nat) : Nat := maxK (sqF f side x y)
def mnS (side : Nat) (f : Nat → Nat → Nat) (x y : Nat) : Nat := minK (sqF f side x y)
/-- gathered from the squares -/
def aroV (G : List Nat → Nat) (xs : List Nat) (side W W' N : Nat) : List Nat := (List.range N).map fun i => cl (G (sqL (fun k => xs.getD k 0) side W W' i (side * side)))
end Go.Proofs.Ytapcgokcfmklbaa

namespace Go.Proofs.Ytapcgokcfmklbaa
open Go Go.RowKit

/-- n / 2^a to the nearest, ties to even -/
def rnd (n a : Nat) : Nat := n / 2 ^ a + (if 2 ^ a < 2 * (n % 2 ^ a) ∨ (2 ^ a = 2 * (n % 2 ^ a) ∧ n / 2 ^ a % 2 = 1) then 1 else 0)
theorem cut_even (neg : Bool) (n a : Nat) : Ieee.Toward.even.cut neg n a = rnd n a := by
  unfold Ieee.Toward.cut rnd
  simp only [Nat.one_shiftLeft]
  have hl : n < 2 ^ (n.log2 + 1) := Nat.lt_log2_self
  by_cases h : a ≤ n.log2 + 2
  · rw [Nat.min_eq_left h]
    congr 1
    by_cases h1 : 2 ^ a < 2 * (n % 2 ^ a)
    · simp [h1]
    · by_cases h2 : 2 ^ a = 2 * (n % 2 ^ a) ∧ n / 2 ^ a % 2 = 1
      · simp [h2.1.symm, h2.2]
      · have h3 : ¬ (2 ^ a < 2 * (n % 2 ^ a) ∨ (2 ^ a = 2 * (n % 2 ^ a) ∧ n / 2 ^ a % 2 = 1)) := by
          rintro (h | h)
          · exact h1 h
          · exact h2 h
        rw [if_neg h3]
        have h4 : (decide (2 ^ a < 2 * (n % 2 ^ a)) || (2 ^ a == 2 * (n % 2 ^ a) && n / 2 ^ a % 2 == 1)) = false := by
          rw [Bool.or_eq_false_iff, decide_eq_false h1]
          refine ⟨rfl, ?_⟩
          cases hc : (2 ^ a == 2 * (n % 2 ^ a) && n / 2 ^ a % 2 == 1)
          · rfl
          · rw [Bool.and_eq_true, beq_iff_eq, beq_iff_eq] at hc
            exact absurd hc h2
        rw [h4]; rfl
  · rw [Nat.min_eq_right (by omega)]
    have e1 : 2 ^ (n.log2 + 2) = 2 * 2 ^ (n.log2 + 1) := by rw [Nat.pow_succ, Nat.mul_comm]
    have h1 : n < 2 ^ (n.log2 + 2) := by omega
    have h2 : 2 ^ (n.log2 + 2) < 2 ^ a := Nat.pow_lt_pow_right (by decide) (by omega)
    have h3 : n < 2 ^ a := by omega
    rw [Nat.div_eq_of_lt h1, Nat.mod_eq_of_lt h1, Nat.div_eq_of_lt h3, Nat.mod_eq_of_lt h3]
    have h4 : ¬ (2 ^ (n.log2 + 2) < 2 * n) := by omega
    have h5 : ¬ (2 ^ a < 2 * n ∨ (2 ^ a = 2 * n ∧ 0 % 2 = 1)) := by omega
    rw [if_neg h5]
    simp [h4]
theorem rnd_zero (n : Nat) : rnd n 0 = n := by
  unfold rnd
  rw [Nat.pow_zero, Nat.div_one, Nat.mod_one, if_neg (by omega)]; rfl
theorem rnd_up (m a t : Nat) : rnd (m * 2 ^ t) (a + t) = rnd m a := by
  unfold rnd
  have ht : 0 < 2 ^ t := Nat.two_pow_pos t
  have e1 : m * 2 ^ t / 2 ^ (a + t) = m / 2 ^ a := by rw [Nat.pow_add, Nat.mul_div_mul_right _ _ ht]
  have e2 : m * 2 ^ t % 2 ^ (a + t) = (m % 2 ^ a) * 2 ^ t := by rw [Nat.pow_add, Nat.mul_mod_mul_right]
  rw [e1, e2, Nat.pow_add]
  have h1 : 2 ^ a * 2 ^ t < 2 * (m % 2 ^ a * 2 ^ t) ↔ 2 ^ a < 2 * (m % 2 ^ a) := by
    rw [← Nat.mul_assoc]; exact Nat.mul_lt_mul_right ht
  have h2 : 2 ^ a * 2 ^ t = 2 * (m % 2 ^ a * 2 ^ t) ↔ 2 ^ a = 2 * (m % 2 ^ a) := by
    rw [← Nat.mul_assoc]; exact Nat.mul_right_cancel_iff ht ..
  simp only [h1, h2]
theorem rnd_exact (m a : Nat) : rnd (m * 2 ^ a) a = m := by
  have := rnd_up m 0 a
  rw [Nat.zero_add, rnd_zero] at this; exact this
theorem log2_up {m t : Nat} (h : m ≠ 0) : (m * 2 ^ t).log2 = m.log2 + t := by
  have h2 : m * 2 ^ t ≠ 0 := Nat.mul_ne_zero h (Nat.ne_of_gt (Nat.two_pow_pos t))
  apply Nat.le_antisymm
  · have h3 : m < 2 ^ (m.log2 + 1) := Nat.lt_log2_self
    have h4 : m * 2 ^ t < 2 ^ (m.log2 + t + 1) := by
      have := Nat.mul_lt_mul_of_pos_right h3 (Nat.two_pow_pos t)
      rw [← Nat.pow_add] at this
      rw [show m.log2 + t + 1 = m.log2 + 1 + t by omega]; exact this
    exact Nat.le_of_lt_succ ((Nat.log2_lt h2).2 h4)
  · rw [Nat.le_log2 h2, Nat.pow_add]
    exact Nat.mul_le_mul_right _ (Nat.log2_self_le h)
/-- what 'nearest' does, in the words of rnd -/
theorem nearest_rnd (f : Ieee.Format) (neg : Bool) {m : Nat} {p L : Int} (h : m ≠ 0) (hL : max (p + m.log2 - f.fractionBits) f.leastPlace = L) :
    f.nearest neg m p = f.word neg (min ((L - f.leastPlace).toNat * f.binade + rnd (m * 2 ^ (p - L).toNat) (L - p).toNat) f.infRung) := by
  unfold Ieee.Format.nearest
  rw [if_neg h]
  simp only [hL, cut_even, Nat.shiftLeft_eq]
/-- only the value counts -/
theorem nearest_up (f : Ieee.Format) (neg : Bool) {m t : Nat} {p : Int} (h : m ≠ 0) : f.nearest neg (m * 2 ^ t) p = f.nearest neg m (p + t) := by
  have h2 : m * 2 ^ t ≠ 0 := Nat.mul_ne_zero h (Nat.ne_of_gt (Nat.two_pow_pos t))
  obtain ⟨L, hL⟩ : ∃ L, max (p + t + m.log2 - f.fractionBits) f.leastPlace = L := ⟨_, rfl⟩
  rw [nearest_rnd f neg h hL, nearest_rnd f neg h2 (L := L) (by rw [log2_up h, ← hL]; congr 1; omega)]
  congr 3
  by_cases h3 : L ≤ p
  · have e1 : (L - p).toNat = 0 := by omega
    have e2 : (L - (p + t)).toNat = 0 := by omega
    rw [e1, e2, rnd_zero, rnd_zero, Nat.mul_assoc, ← Nat.pow_add]
    congr 2; omega
  · by_cases h4 : L ≤ p + t
    · have e1 : (p - L).toNat = 0 := by omega
      have e2 : (L - (p + t)).toNat = 0 := by omega
      have e3 : t = (p + t - L).toNat + (L - p).toNat := by omega
      rw [e1, e2, rnd_zero, Nat.pow_zero, Nat.mul_one]
      conv => lhs; rw [e3, Nat.pow_add, ← Nat.mul_assoc]
      rw [rnd_exact]
    · have e1 : (p - L).toNat = 0 := by omega
      have e2 : (p + t - L).toNat = 0 := by omega
      have e3 : (L - p).toNat = (L - (p + t)).toNat + t := by omega
      rw [e1, e2, Nat.pow_zero, Nat.mul_one, Nat.mul_one, e3, rnd_up]
end Go.Proofs.Ytapcgokcfmklbaa

namespace Go.Proofs.Ytapcgokcfmklbaa
open Go Go.RowKit

/-- a number as a whole multiple of 2^-1074 -/
def val64 (s : Bool) (m : Nat) (p : Int) : Int := Ieee.signed s m (p + 1074).toNat
theorem val_abs (s : Bool) (m u : Nat) : (Ieee.signed s m u).natAbs = m * 2 ^ u := by
  unfold Ieee.signed
  rw [Nat.shiftLeft_eq]
  cases s
  · exact Int.natAbs_natCast _
  · simp only [if_true]; rw [Int.natAbs_neg]; exact Int.natAbs_natCast _
/-- a sum of two data, in units of 2^-1074 -/
theorem sum_write (f : Ieee.Format) {s t : Bool} {m n : Nat} {p q : Int} (hp : -1074 ≤ p) (hq : -1074 ≤ q) (h0 : val64 s m p + val64 t n q ≠ 0) :
    (((Ieee.Datum.number s m p).sum (.number t n q)).map f.write) = some (f.nearest (decide (val64 s m p + val64 t n q < 0)) (val64 s m p + val64 t n q).natAbs (-1074)) := by
  simp only [Ieee.Datum.sum, Option.map_some, Ieee.Format.write]
  obtain ⟨b, hb⟩ : ∃ b, min p q = b := ⟨_, rfl⟩
  rw [hb]
  have e1 : val64 s m p = Ieee.signed s m (p - b).toNat * 2 ^ (b + 1074).toNat := by
    unfold val64; rw [← signed_shift]; congr 1; omega
  have e2 : val64 t n q = Ieee.signed t n (q - b).toNat * 2 ^ (b + 1074).toNat := by
    unfold val64; rw [← signed_shift]; congr 1; omega
  rw [e1, e2, ← Int.add_mul] at h0 ⊢
  generalize Ieee.signed s m (p - b).toNat + Ieee.signed t n (q - b).toNat = z at *
  have hk : (0 : Int) < 2 ^ (b + 1074).toNat := Int.pow_pos (by decide)
  have hz : z ≠ 0 := fun h => h0 (by rw [h, Int.zero_mul])
  rw [if_neg hz]
  have e3 : decide (z * 2 ^ (b + 1074).toNat < 0) = decide (z < 0) := by
    apply decide_eq_decide.2
    constructor
    · intro h
      rcases Int.lt_or_le z 0 with h1 | h1
      · exact h1
      · have := Int.mul_nonneg h1 (Int.le_of_lt hk); omega
    · intro h; exact Int.mul_neg_of_neg_of_pos h hk
  have e4 : (z * 2 ^ (b + 1074).toNat).natAbs = z.natAbs * 2 ^ (b + 1074).toNat := by
    rw [Int.natAbs_mul, Int.natAbs_pow]; rfl
  rw [e3, e4, nearest_up f _ (by omega)]
  congr 2; omega
end Go.Proofs.Ytapcgokcfmklbaa

namespace Go.Proofs.Ytapcgokcfmklbaa
open Go Go.RowKit

/-- a quotient's digits, and one more that tells whether anything is left over -/
def stk (N n : Nat) : Nat := 2 * (N / n) + (if N % n = 0 then 0 else 1)
/-- N / (n * 2^(a-1)) to the nearest, ties to even -/
def RR (N n a : Nat) : Nat := N / (n * 2 ^ (a - 1)) + (if n * 2 ^ (a - 1) < 2 * (N % (n * 2 ^ (a - 1))) ∨ (n * 2 ^ (a - 1) = 2 * (N % (n * 2 ^ (a - 1))) ∧ N / (n * 2 ^ (a - 1)) % 2 = 1) then 1 else 0)
end Go.Proofs.Ytapcgokcfmklbaa

namespace Go.Proofs.Ytapcgokcfmklbaa
open Go Go.RowKit

theorem read_exact (neg : Bool) {m : Nat} {p : Int} (h : m ≠ 0) (hl : m.log2 ≤ 52) (hlo : -1022 ≤ p + m.log2) (hhi : p + m.log2 ≤ 1000) :
    Ieee.double.read (Ieee.double.nearest neg m p) = .number neg (m * 2 ^ (52 - m.log2)) (p - ((52 - m.log2 : Nat) : Int)) := by
  obtain ⟨E, hE⟩ : ∃ E, p + m.log2 = E := ⟨_, rfl⟩
  have f1 : Ieee.double.fractionBits = 52 := rfl
  have f2 : Ieee.double.leastPlace = -1074 := by decide
  have f3 : Ieee.double.binade = 4503599627370496 := by decide
  have f4 : Ieee.double.infRung = 9218868437227405312 := by decide
  have f5 : Ieee.double.signWeight = 9223372036854775808 := by decide
  have hD : max (p + m.log2 - Ieee.double.fractionBits) Ieee.double.leastPlace = E - 52 := by rw [f1, f2, hE]; omega
  obtain ⟨K, hK⟩ : ∃ K, m * 2 ^ (52 - m.log2) = K := ⟨_, rfl⟩
  have h2 : K ≠ 0 := by rw [← hK]; exact Nat.mul_ne_zero h (Nat.ne_of_gt (Nat.two_pow_pos _))
  have h4 : K.log2 = 52 := by rw [← hK, log2_up h]; omega
  have h5 := Nat.log2_self_le h2
  have h6 : K < 2 ^ (K.log2 + 1) := Nat.lt_log2_self
  rw [h4] at h5 h6
  have c52 : (2 : Nat) ^ 52 = 4503599627370496 := by decide
  have c53 : (2 : Nat) ^ (52 + 1) = 9007199254740992 := by decide
  rw [c52] at h5
  rw [c53] at h6
  have hnear := nearest_rnd Ieee.double neg h hD
  have e1 : (p - (E - 52)).toNat = 52 - m.log2 := by omega
  have e2 : (E - 52 - p).toNat = 0 := by omega
  rw [e1, e2, rnd_zero, hK, f2, f3, f4] at hnear
  have hr : (E - 52 - -1074).toNat * 4503599627370496 + K < 9218868437227405312 := by omega
  rw [Nat.min_eq_left (by omega)] at hnear
  rw [hnear, hK]
  obtain ⟨R, hR⟩ : ∃ R, (E - 52 - -1074).toNat * 4503599627370496 + K = R := ⟨_, rfl⟩
  rw [hR] at hr ⊢
  have hw1 : (Ieee.double.word neg R / 9223372036854775808 % 2 == 1) = neg := by
    unfold Ieee.Format.word
    rw [f5]
    cases neg
    · simp only [Bool.false_eq_true, if_false]
      rw [Nat.div_eq_of_lt (by omega)]; rfl
    · simp only [if_true]
      rw [show (9223372036854775808 + R) / 9223372036854775808 = 1 by omega]; rfl
  have hw2 : Ieee.double.word neg R % 9223372036854775808 = R := by
    unfold Ieee.Format.word
    rw [f5]
    cases neg
    · simp only [Bool.false_eq_true, if_false]; omega
    · simp only [if_true]; omega
  unfold Ieee.Format.read
  simp only [f2, f3, f4, f5]
  rw [hw1, hw2]
  obtain ⟨u, hu⟩ : ∃ u : Nat, (E - 52 - -1074).toNat = u := ⟨_, rfl⟩
  rw [hu] at hR
  have hEu : (u : Int) = E - 52 + 1074 := by omega
  rw [if_neg (show ¬ R < 4503599627370496 by omega), if_pos (by omega)]
  congr 1
  · omega
  · omega
theorem quo_form (d : Nat) (s t : Bool) (m n : Nat) (i j : Int) (hn : n ≠ 0) : (Ieee.Datum.number s m i).quotient d (.number t n j) = some (.number (s ^^ t) (stk (m * 2 ^ (d + n.log2 - m.log2)) n) (i - j - ((d + n.log2 - m.log2 : Nat) : Int) - 1)) := by
  unfold Ieee.Datum.quotient stk
  simp only
  rw [if_neg hn, Nat.shiftLeft_eq]
  congr 3
  by_cases h : m * 2 ^ (d + n.log2 - m.log2) % n = 0
  · rw [if_pos h, h]; rfl
  · rw [if_neg h]
    have : (m * 2 ^ (d + n.log2 - m.log2) % n != 0) = true := bne_iff_ne.2 h
    rw [this]; rfl
theorem single_div {x y : Nat} {s t : Bool} {m n : Nat} {i j : Int} (hx : Ieee.single.read x = .number s m i) (hy : Ieee.single.read y = .number t n j) (hn : n ≠ 0) :
    Ieee.single.div x y = some (Ieee.single.nearest (s ^^ t) (stk (m * 2 ^ (25 + n.log2 - m.log2)) n) (i - j - ((25 + n.log2 - m.log2 : Nat) : Int) - 1)) := by
  have h := quo_form (Ieee.single.fractionBits + 2) s t m n i j hn
  have e : Ieee.single.fractionBits + 2 = 25 := rfl
  rw [e] at h
  unfold Ieee.Format.div
  rw [hx, hy, e, h, Option.map_some]
  rfl
theorem f32_f64 {x : Nat} {s s2 : Bool} {m m2 : Nat} {i i2 : Int} (hx : Ieee.single.read x = .number s m i) (h2 : Ieee.double.read (Ieee.double.nearest s m i) = .number s2 m2 i2) : floatToFloatBits .f32 x .f64 = some (Ieee.double.nearest s m i) := by
  unfold floatToFloatBits
  rw [if_neg (by decide)]
  have e : FloatKind.f32.decode x = .number s m i := hx
  rw [e]
  simp only
  have e2 : FloatKind.f64.encode (.number s m i) = Ieee.double.nearest s m i := rfl
  have e3 : FloatKind.f64.decode (Ieee.double.nearest s m i) = .number s2 m2 i2 := h2
  rw [e2, e3]
  rfl
theorem f64_f32 {z r : Nat} {s : Bool} {m : Nat} {i : Int} (hz : Ieee.double.read z = .number s m i) (hr : Ieee.single.nearest s m i = r) (hf : (Ieee.single.read r).isInfinity = false) : floatToFloatBits .f64 z .f32 = some r := by
  unfold floatToFloatBits
  rw [if_neg (by decide)]
  have e : FloatKind.f64.decode z = .number s m i := hz
  rw [e]
  simp only
  have e2 : FloatKind.f32.encode (.number s m i) = r := hr
  have e3 : (FloatKind.f32.decode r).isInfinity = false := hf
  rw [e2, e3]
  rfl
end Go.Proofs.Ytapcgokcfmklbaa

namespace Go.Proofs.Ytapcgokcfmklbaa
open Go Go.RowKit

theorem single_log {m : Nat} (h0 : m ≠ 0) (h : m ≤ 16777215) : m.log2 ≤ 23 := by
  have e : (2 : Nat) ^ (23 + 1) = 16777216 := by decide
  exact Nat.le_of_lt_succ ((Nat.log2_lt h0).2 (by rw [e]; omega))
/-- a single's double: what it reads as -/
theorem wide_read {s : Bool} {m : Nat} {i : Int} (hm : m ≤ 16777215) (hi : -149 ≤ i) (hi2 : i ≤ 104) :
    (m = 0 ∧ Ieee.double.read (Ieee.double.nearest s m i) = .number s 0 (-1074)) ∨ (m ≠ 0 ∧ Ieee.double.read (Ieee.double.nearest s m i) = .number s (m * 2 ^ (52 - m.log2)) (i - ((52 - m.log2 : Nat) : Int))) := by
  by_cases h0 : m = 0
  · left
    subst h0
    refine ⟨rfl, ?_⟩
    have e : Ieee.double.nearest s 0 i = Ieee.double.word s 0 := if_pos rfl
    rw [e]
    cases s
    · decide +kernel
    · decide +kernel
  · right
    have hl := single_log h0 hm
    exact ⟨h0, read_exact s h0 (by omega) (by omega) (by omega)⟩
theorem wide_conv {x : Nat} {s : Bool} {m : Nat} {i : Int} (hx : Ieee.single.read x = .number s m i) : floatToFloatBits .f32 x .f64 = some (Ieee.double.nearest s m i) := by
  have hb := num_bd hx
  rcases wide_read (s := s) hb.1 hb.2.2 hb.2.1 with ⟨_, h⟩ | ⟨_, h⟩
  · exact f32_f64 hx h
  · exact f32_f64 hx h
theorem zero_back (sg : Bool) {r : Nat} (hr : Ieee.single.word sg 0 = r) : floatToFloatBits .f64 (Ieee.double.word sg 0) .f32 = some r := by
  subst hr
  cases sg
  · decide +kernel
  · decide +kernel
theorem sum_zero {s t : Bool} {m n : Nat} {p q : Int} (f : Ieee.Format) (hp : -1074 ≤ p) (hq : -1074 ≤ q) (h0 : val64 s m p + val64 t n q = 0) :
    (((Ieee.Datum.number s m p).sum (.number t n q)).map f.write) = some (f.word (s && t) 0) := by
  simp only [Ieee.Datum.sum, Option.map_some, Ieee.Format.write]
  obtain ⟨b, hb⟩ : ∃ b, min p q = b := ⟨_, rfl⟩
  rw [hb]
  have e1 : val64 s m p = Ieee.signed s m (p - b).toNat * 2 ^ (b + 1074).toNat := by
    unfold val64; rw [← signed_shift]; congr 1; omega
  have e2 : val64 t n q = Ieee.signed t n (q - b).toNat * 2 ^ (b + 1074).toNat := by
    unfold val64; rw [← signed_shift]; congr 1; omega
  rw [e1, e2, ← Int.add_mul] at h0
  have hk : (0 : Int) < 2 ^ (b + 1074).toNat := Int.pow_pos (by decide)
  have hz : Ieee.signed s m (p - b).toNat + Ieee.signed t n (q - b).toNat = 0 := by
    rcases Int.mul_eq_zero.1 h0 with h | h
    · exact h
    · omega
  rw [hz, if_pos rfl]
  unfold Ieee.Format.nearest
  rw [if_pos (by rfl)]
theorem val_neg (t : Bool) (n : Nat) (j : Int) : val64 (!t) n j = - val64 t n j := by
  unfold val64 Ieee.signed
  cases t <;> simp
end Go.Proofs.Ytapcgokcfmklbaa

namespace Go.Proofs.Ytapcgokcfmklbaa
open Go Go.RowKit

/-- x is a number, less than 2^B in size -/
def fb (x : Nat) (B : Int) : Prop := ∃ s m i, Ieee.single.read x = .number s m i ∧ (m = 0 ∨ i + (m.log2 : Int) < B)
theorem word_read (neg : Bool) {R : Nat} (hR : R < 2139095040) : Ieee.single.read (Ieee.single.word neg R) = if R < 8388608 then .number neg R (-149) else .number neg (8388608 + R % 8388608) (-149 + ((R / 8388608 - 1 : Nat) : Int)) := by
  have e1 : Ieee.single.signWeight = 2147483648 := rfl
  have e2 : Ieee.single.binade = 8388608 := rfl
  have e3 : Ieee.single.infRung = 2139095040 := rfl
  have e4 : Ieee.single.leastPlace = -149 := by decide
  have hw1 : (Ieee.single.word neg R / 2147483648 % 2 == 1) = neg := by
    unfold Ieee.Format.word
    rw [e1]
    cases neg
    · simp only [Bool.false_eq_true, if_false]
      rw [Nat.div_eq_of_lt (by omega)]; rfl
    · simp only [if_true]
      rw [show (2147483648 + R) / 2147483648 = 1 by omega]; rfl
  have hw2 : Ieee.single.word neg R % 2147483648 = R := by
    unfold Ieee.Format.word
    rw [e1]
    cases neg
    · simp only [Bool.false_eq_true, if_false]; omega
    · simp only [if_true]; omega
  unfold Ieee.Format.read
  simp only [e1, e2, e3, e4]
  rw [hw1, hw2]
  by_cases h3 : R < 8388608
  · rw [if_pos h3, if_pos h3]
  · rw [if_neg h3, if_neg h3, if_pos hR]
theorem log_le {m k : Nat} (h0 : m ≠ 0) (h : m ≤ 2 ^ k) : m.log2 ≤ k := by
  have h1 := Nat.log2_self_le h0
  rcases Nat.lt_or_ge k m.log2 with h2 | h2
  · have : 2 ^ (k + 1) ≤ 2 ^ m.log2 := Nat.pow_le_pow_right (by decide) h2
    rw [Nat.pow_succ] at this
    have := Nat.two_pow_pos k
    omega
  · exact h2
end Go.Proofs.Ytapcgokcfmklbaa

namespace Go.Proofs.Ytapcgokcfmklbaa
open Go Go.RowKit

theorem stk_zero (n : Nat) : stk 0 n = 0 := by unfold stk; rw [Nat.zero_div, Nat.zero_mod]; rfl
/-- a whole number of at most 24 bits, as a single -/
theorem cv_whole {n : Int} (h : n.natAbs ≤ 16777215) : ∃ m i, Ieee.single.read (cvF n) = .number (decide (n < 0)) m i ∧ (n = 0 → m = 0) ∧ (n ≠ 0 → m ≠ 0 ∧ i + (m.log2 : Int) = (n.natAbs.log2 : Int)) := by
  have e : cvF n = Ieee.single.nearest (decide (n < 0)) n.natAbs 0 := rfl
  rw [e]
  by_cases h0 : n = 0
  · subst h0
    exact ⟨0, -149, by decide +kernel, fun _ => rfl, fun h => absurd rfl h⟩
  · have ha : n.natAbs ≠ 0 := by omega
    have hl := single_log ha h
    have g1 : Ieee.single.fractionBits = 23 := rfl
    have g2 : Ieee.single.leastPlace = -149 := by decide
    have g3 : Ieee.single.binade = 8388608 := by decide
    have g4 : Ieee.single.infRung = 2139095040 := by decide
    have c23 : (2 : Nat) ^ 23 = 8388608 := by decide
    have c24 : (2 : Nat) ^ (23 + 1) = 16777216 := by decide
    have hnr := nearest_rnd Ieee.single (decide (n < 0)) ha (p := 0) (L := (n.natAbs.log2 : Int) - 23) (by rw [g1, g2]; omega)
    obtain ⟨k, hk⟩ : ∃ k, 23 - n.natAbs.log2 = k := ⟨_, rfl⟩
    have q1 : (0 - ((n.natAbs.log2 : Int) - 23)).toNat = k := by omega
    have q2 : ((n.natAbs.log2 : Int) - 23 - 0).toNat = 0 := by omega
    rw [q1, q2, rnd_zero, g2, g3, g4] at hnr
    have hlog : (n.natAbs * 2 ^ k).log2 = 23 := by rw [log2_up ha]; omega
    obtain ⟨K, hK⟩ : ∃ K, n.natAbs * 2 ^ k = K := ⟨_, rfl⟩
    rw [hK] at hnr hlog
    have hK0 : K ≠ 0 := by rw [← hK]; exact Nat.mul_ne_zero ha (Nat.ne_of_gt (Nat.two_pow_pos _))
    have h1 := Nat.log2_self_le hK0
    have h2 : K < 2 ^ (K.log2 + 1) := Nat.lt_log2_self
    rw [hlog, c23] at h1
    rw [hlog, c24] at h2
    obtain ⟨u, hu⟩ : ∃ u : Nat, ((n.natAbs.log2 : Int) - 23 - -149).toNat = u := ⟨_, rfl⟩
    have hub : u ≤ 149 := by omega
    rw [hu, Nat.min_eq_left (by omega)] at hnr
    have hrd := word_read (decide (n < 0)) (R := u * 8388608 + K) (by omega)
    rw [if_neg (by omega)] at hrd
    rw [hnr]
    have e1 : 8388608 + (u * 8388608 + K) % 8388608 = K := by omega
    have e2 : (u * 8388608 + K) / 8388608 - 1 = u := by omega
    rw [e1, e2] at hrd
    exact ⟨_, _, hrd, fun h => absurd h h0, fun _ => ⟨hK0, by rw [hlog]; omega⟩⟩
theorem cv_fb {n : Int} (h : n.natAbs ≤ 16777215) : fb (cvF n) 24 := by
  obtain ⟨m, i, h1, h2, h3⟩ := cv_whole h
  refine ⟨_, m, i, h1, ?_⟩
  by_cases h0 : n = 0
  · exact .inl (h2 h0)
  · have := (h3 h0).2
    have hl := single_log (m := n.natAbs) (by omega) h
    exact .inr (by omega)
end Go.Proofs.Ytapcgokcfmklbaa

namespace Go.Proofs.Ytapcgokcfmklbaa
open Go Go.ChangeShapes Go.WideShapes Go.RowKit

/-- points in memory -/
def psC : List (Int × Int) → List Value
  | [] => []
  | p :: l => iv p.1 :: iv p.2 :: psC l
theorem psC_len : ∀ l, (psC l).length = 2 * l.length
  | [] => rfl
  | p :: l => by simp only [psC, List.length_cons, psC_len l]; omega
theorem psC_at : ∀ {l : List (Int × Int)} {i j : Nat}, i < l.length → j < 2 → (psC l)[2 * i + j]? = ([iv (l.getD i (0, 0)).1, iv (l.getD i (0, 0)).2] : List Value)[j]?
  | [], i, _, h, _ => absurd h (Nat.not_lt_zero _)
  | p :: l, 0, j, _, hj => by
    match j, hj with
    | 0, _ => rfl
    | 1, _ => rfl
  | p :: l, i + 1, j, h, hj => by
    show (iv p.1 :: iv p.2 :: psC l)[2 * (i + 1) + j]? = _
    rw [show 2 * (i + 1) + j = 2 * i + j + 1 + 1 by omega, List.getElem?_cons_succ, List.getElem?_cons_succ, psC_at (by simpa using h) hj]
    rfl
def PS (w : World) (A : Option Addr) (l : List (Int × Int)) : Prop :=
  0 < l.length → ∃ b o, A = some ⟨b, o, none⟩ ∧ ∀ i, i < l.length → ∀ j v, ([iv (l.getD i (0, 0)).1, iv (l.getD i (0, 0)).2] : List Value)[j]? = some v → w.cell? ((⟨b, o + i * 2, none⟩ : Addr).add j) = some v
theorem PS.own {W w : World} {H : HL} {A : Option Addr} {l : List (Int × Int)} (h : PS W A l) (ho : Own W w H) : PS w A l := fun h0 => by
  obtain ⟨b, o, h1, h2⟩ := h h0
  exact ⟨b, o, h1, fun i hi j v hj => ho.old (h2 i hi j v hj)⟩
theorem PS.blk {W w : World} {H : HL} {g t : Nat} {l : List (Int × Int)} {junk : List Value} (ho : Own W w H) (hm : (⟨g, t, psC l ++ junk⟩ : B) ∈ H) : PS w (some ⟨g, 0, none⟩) l := fun _ => by
  refine ⟨g, 0, rfl, fun i hi j v hj => ?_⟩
  have hj2 : j < 2 := (List.getElem?_eq_some_iff.1 hj).1
  have hb := ho.blk _ hm
  rw [addr_add, hb.2.cell]
  show (psC l ++ junk)[0 + i * 2 + j]? = _
  rw [List.getElem?_append_left (by rw [psC_len]; omega), show 0 + i * 2 + j = 2 * i + j by omega, psC_at hi hj2]
  exact hj
structure Win where
  kind : Int
  x : Nat
  y : Nat
  w : Nat
  h : Nat
  soft : Nat
  pts : List (Int × Int)
  out : Bool
deriving DecidableEq, Inhabited
def winC (v : Win) (A : Option Addr) (c : Nat) : List Value := [iv v.kind, flt v.x, flt v.y, flt v.w, flt v.h, flt v.soft, .slice A v.pts.length c, .bool v.out]
structure KF where
  frame : Int
  ease : Int
  win : Win
  A : Option Addr
  c : Nat
deriving Inhabited
def kfC (k : KF) : List Value := iv k.frame :: iv k.ease :: winC k.win k.A k.c
/-- a window's numbers are singles, its points lie in memory -/
def okWin (W : World) (v : Win) (A : Option Addr) : Prop := PS W A v.pts ∧ v.pts.length ≤ maxLen
def KS (w : World) (A : Option Addr) (l : List KF) : Prop :=
  0 < l.length → ∃ b o, A = some ⟨b, o, none⟩ ∧ ∀ i k, l[i]? = some k → (∀ j v, (kfC k)[j]? = some v → w.cell? ⟨b, o + i * 10 + j, none⟩ = some v) ∧ okWin w k.win k.A
theorem KS.own {W w : World} {H : HL} {A : Option Addr} {l : List KF} (h : KS W A l) (ho : Own W w H) : KS w A l := fun h0 => by
  obtain ⟨b, o, h1, h2⟩ := h h0
  exact ⟨b, o, h1, fun i k hk => ⟨fun j v hj => ho.old ((h2 i k hk).1 j v hj), (h2 i k hk).2.1.own ho, (h2 i k hk).2.2⟩⟩
theorem KS.at_ {w : World} {A : Option Addr} {l : List KF} (h : KS w A l) {i : Nat} (hi : i < l.length) : ∃ b o, A = some ⟨b, o, none⟩ ∧ (∀ j v, (kfC (l.getD i default))[j]? = some v → w.cell? ((⟨b, o + i * 10, none⟩ : Addr).add j) = some v) ∧ okWin w (l.getD i default).win (l.getD i default).A := by
  obtain ⟨b, o, h1, h2⟩ := h (by omega)
  have h3 : l[i]? = some (l.getD i default) := by rw [List.getD_eq_getElem?_getD, List.getElem?_eq_getElem hi]; rfl
  refine ⟨b, o, h1, fun j v hj => ?_, (h2 i _ h3).2⟩
  rw [addr_add]
  exact (h2 i _ h3).1 j v hj
section
variable {H : Type} {enc : TypeId × Value → H} {P : Program} {w : World} {base : Nat} {spare : Nat → Bool} {held : Bool}
end
end Go.Proofs.Ytapcgokcfmklbaa

namespace Go.Proofs.Ytapcgokcfmklbaa
open Go Go.Proofs Go.RowKit

def outF (v lo hi : Nat) : Bool := fcmpB .lss v lo || fcmpB .gtr v hi
def inF (v lo hi : Nat) : Bool := fcmpB .geq v lo && fcmpB .leq v hi
def plcB (n : Int) : Bool := decide (-1048576 ≤ n) && decide (n ≤ 1048576)
def farP (p : Int × Int) : Bool := !plcB p.1 || !plcB p.2
def anyF (l : List (Int × Int)) : Bool := l.any farP
end Go.Proofs.Ytapcgokcfmklbaa

namespace Go.Proofs.Ytapcgokcfmklbaa
open Go Go.Proofs Go.RowKit

def nz (q : Nat) : Bool := fcmpB .neq q 0
def ez (q : Nat) : Bool := fcmpB .eql q 0
/-- is a window out of its bounds -/
def outW (u : Win) : Bool := outF u.x 3380609024 1233125376 || outF u.y 3380609024 1233125376 || outF u.w 0 1233125376 || outF u.h 0 1233125376 || outF u.soft 0 1166016512
def badP (u : Win) : Prop := (u.kind = 3 ∧ (u.pts.length < 3 ∨ 32 < u.pts.length)) ∨ (u.kind ≠ 3 ∧ 0 < u.pts.length)
def nzW (u : Win) : Bool := nz u.x || nz u.y || nz u.w || nz u.h || nz u.soft
def cnfW (u : Win) : Prop := (u.kind = 3 ∧ nzW u = true) ∨ (u.kind = 2 ∧ (ez u.w || ez u.h) = true)
instance (u : Win) : Decidable (badP u) := by unfold badP; infer_instance
instance (u : Win) : Decidable (cnfW u) := by unfold cnfW; infer_instance
def numW (u : Win) : Bool := numsB [u.x, u.y, u.w, u.h, u.soft]
/-- what is wrong with a window -/
def winE (u : Win) : Int :=
  if u.kind ≠ 1 ∧ u.kind ≠ 2 ∧ u.kind ≠ 3 then 1 else if numW u = false then 2 else if outW u = true then 3 else if badP u then 3 else if anyF u.pts = true then 5 else if cnfW u then 12 else 0
end Go.Proofs.Ytapcgokcfmklbaa

namespace Go.Proofs.Ytapcgokcfmklbaa
open Go Go.RowKit

/-- compare doubles -/
def cmpD (op : BinOp) (a b : Nat) : Bool :=
  match op with
  | .lss => Ieee.double.order a b == some .lt
  | .gtr => Ieee.double.order a b == some .gt
  | _ => false
section
variable {P : Program} {W : World} {H : HL} {e : Env} {x y : Operand} {t t' ty : TypeId}
end
def isNanD (d : Ieee.Datum) : Prop := ∃ s f, d = .nan s f
/-- a single that is no NaN, as a double -/
def wdD (v : Nat) : Nat := (floatToFloatBits .f32 v .f64).getD 0
/-- made whole, to the nearest, the even one between two -/
def rteD (d : Nat) : Nat := FloatKind.f64.encode ((FloatKind.f64.decode d).integral .even)
def loD : Nat := FloatKind.f64.nearest (-1048576)
def hiD : Nat := FloatKind.f64.nearest 1048576
theorem cut_zero (neg : Bool) (n k : Nat) : Ieee.Toward.zero.cut neg n k = n / 2 ^ k := by
  unfold Ieee.Toward.cut
  simp only [Bool.toNat_false, Nat.add_zero, Nat.shiftLeft_eq, Nat.one_mul]
  rcases Nat.le_total k (n.log2 + 2) with h | h
  · rw [Nat.min_eq_left h]
  · rw [Nat.min_eq_right h, Nat.div_eq_of_lt, Nat.div_eq_of_lt]
    · exact Nat.lt_of_lt_of_le Nat.lt_log2_self (Nat.pow_le_pow_right (by omega) (by omega))
    · exact Nat.lt_of_lt_of_le Nat.lt_log2_self (Nat.pow_le_pow_right (by omega) (by omega))
/-- Near, between -1048576 and 1048576 -/
def nearI (v : Nat) : Int := if nan32 v then -1048576 else if cmpD .lss (rteD (wdD v)) loD then -1048576 else if cmpD .gtr (rteD (wdD v)) hiD then 1048576 else (floatToIntVal .f64 (rteD (wdD v)) .i64).getD 0
end Go.Proofs.Ytapcgokcfmklbaa

namespace Go.Proofs.Ytapcgokcfmklbaa
open Go Go.RowKit

/-! windows' bounds -/
/-! key frames -/
def frE1 (l : List KF) (i : Nat) : Int :=
  let k := l.getD i default
  let a := (l.getD 0 default).win
  if k.frame < 0 ∨ 16777216 < k.frame then 3
  else if k.ease < 1 ∨ 3 < k.ease then 1
  else if winE k.win ≠ 0 then winE k.win
  else if 0 < i ∧ k.frame ≤ (l.getD (i - 1) default).frame then 8
  else if k.win.kind ≠ a.kind ∨ k.win.out ≠ a.out ∨ k.win.pts.length ≠ a.pts.length then 12
  else 0
def frE (l : List KF) : Int := if l.length = 0 then 10 else if 100 < l.length then 4 else firstE (frE1 l) l.length
section
variable {l : List KF} {i : Nat} {k : KF} {a : Win}
end
/-- how many of the first frames are not past f -/
def cntK (f : Int) : List KF → Nat
  | [] => 0
  | k :: l => if k.frame ≤ f then cntK f l + 1 else 0
/-! between -/
def limV (t : Nat) : Nat := if fcmpB .lss t 0 then 0 else if fcmpB .gtr t 1065353216 then 1065353216 else cl t
def smoothV (t : Nat) : Nat := fo .mul (fo .mul (limV t) (limV t)) (fo .sub 1077936128 (fo .mul 1073741824 (limV t)))
def tV0 (p q : Int) : Nat := (fop .quo (cvF p) (cvF q)).getD 0
/-- how far between two key frames -/
def tV (a b : KF) (f : Int) : Nat := if a.ease = 3 then smoothV (tV0 (f - a.frame) (b.frame - a.frame)) else if a.ease = 1 then 0 else tV0 (f - a.frame) (b.frame - a.frame)
def mixP (p q : Int × Int) (t : Nat) : Int × Int := (nearI (lerpV (cvF p.1) (cvF q.1) t), nearI (lerpV (cvF p.2) (cvF q.2) t))
/-- the first n points mixed, the others as they are -/
def mixPs (ps qs : List (Int × Int)) (t n : Nat) : List (Int × Int) := (List.range ps.length).map fun i => if i < n then mixP (ps.getD i (0, 0)) (qs.getD i (0, 0)) t else ps.getD i (0, 0)
def mixW (a b : Win) (t : Nat) : Win := ⟨a.kind, lerpV a.x b.x t, lerpV a.y b.y t, lerpV a.w b.w t, lerpV a.h b.h t, lerpV a.soft b.soft t, mixPs a.pts b.pts t a.pts.length, a.out⟩
/-- the window of a frame -/
def betw (l : List KF) (f : Int) : Win :=
  let i := cntK f l
  if i = 0 then (l.getD 0 default).win
  else if i = l.length ∨ (l.getD (i - 1) default).frame = f then (l.getD (i - 1) default).win
  else mixW (l.getD (i - 1) default).win (l.getD i default).win (tV (l.getD (i - 1) default) (l.getD i default) f)
/-! moved -/
def addV (x : Nat) (d : Int) : Nat := (fop .add x (cvF d)).getD 0
def movP (p : Int × Int) (dx dy : Int) : Int × Int := (p.1 + dx, p.2 + dy)
/-- the first n points moved -/
def movPs (ps : List (Int × Int)) (dx dy : Int) (n : Nat) : List (Int × Int) := (List.range ps.length).map fun i => if i < n then movP (ps.getD i (0, 0)) dx dy else ps.getD i (0, 0)
def movW (u : Win) (dx dy : Int) : Win := ⟨u.kind, if u.kind ≠ 3 then addV u.x dx else u.x, if u.kind ≠ 3 then addV u.y dy else u.y, u.w, u.h, u.soft, movPs u.pts dx dy u.pts.length, u.out⟩
def movE (u : Win) (dx dy : Int) : Int := if winE u ≠ 0 then winE u else if plcB dx = false ∨ plcB dy = false then 3 else winE (movW u dx dy)
def zeroW : Win := ⟨0, 0, 0, 0, 0, 0, [], false⟩
def movR (u : Win) (dx dy : Int) : Win := if movE u dx dy = 0 then movW u dx dy else zeroW
end Go.Proofs.Ytapcgokcfmklbaa

namespace Go.Proofs.Ytapcgokcfmklbaa
open Go Go.Proofs Go.RowKit

end Go.Proofs.Ytapcgokcfmklbaa

namespace Go.Proofs.Ytapcgokcfmklbaa
open Go Go.RowKit

def and64 (i j : Int) : Int := IntKind.i64.wrap (BitVec.ofInt 64 i &&& BitVec.ofInt 64 j).toNat
section
variable {P : Program} {W : World} {H : HL} {e : Env} {x y : Operand} {t t' ty : TypeId}
theorem QO.and64 {i j : Int} (hx : ev e x = .int .i64 i) (hy : ev e y = .int .i64 j) : QO P W H e (.binOp .and t x y t') ty (.int .i64 (Go.Proofs.Ytapcgokcfmklbaa.and64 i j)) := QO.ibin hx hy (op := .and) trivial
end
/-- the place of a single in the order -/
def plV (v : Nat) : Int := if and64 v 2147483648 ≠ 0 then -(and64 v 2147483647) - 1 else v
end Go.Proofs.Ytapcgokcfmklbaa

namespace Go.Proofs.Ytapcgokcfmklbaa
open Go Go.RowKit

/-- the string of these bytes -/
abbrev sv (l : List UInt8) : Value := .string ⟨l.toArray⟩
/-- bytes as cells -/
def bc (l : List UInt8) : List Value := l.map fun b => Value.int .u8 (b.toNat : Int)
section
variable {P : Program} {W : World} {H : HL} {e : Env} {x y : Operand} {t t' ty : TypeId} {l m : List UInt8}
end
def u8ok (P : Program) (el : TypeId) : Bool := match P.info? el with
  | some i => (match i.zero with | some (.int .u8 0) => true | _ => false) && i.size == 1 && i.bytes == 1
  | none => false
section
variable {P : Program} {W : World} {n : Nat} {ops : Array Oper} {Q : Env → HL → Prop} {rest : List Oper} {e : Env} {H : HL}
variable {d : Tmp} {ty t t2 : TypeId} {pos : String} {af : Array Edge} {x y : Operand} {v : Value}
end
end Go.Proofs.Ytapcgokcfmklbaa

namespace Go.Proofs.Ytapcgokcfmklbaa
open Go Go.RowKit

/-- a field's value -/
inductive Fd where
  | i (z : Int)
  | s (l : List UInt8)
  | f (b : Nat)
  | b (x : Bool)
def Fd.v : Fd → Value
  | .i z => iv z
  | .s l => sv l
  | .f n => flt n
  | .b x => .bool x
def Fd.k : Fd → Nat
  | .i _ => 0
  | .s _ => 1
  | .f _ => 2
  | .b _ => 3
def Fd.eq : Fd → Fd → Bool
  | .i z, .i w => z == w
  | .s l, .s m => l == m
  | .f m, .f n => fcmpB .eql m n
  | .b x, .b y => x == y
  | _, _ => false
def allEq : List Fd → List Fd → Bool
  | [], [] => true
  | a :: l, b :: m => a.eq b && allEq l m
  | _, _ => false
def tyKind (P : Program) (t : TypeId) : Nat :=
  match P.underlying t with
  | some (.int .i64) => 0
  | some .string => 1
  | some (.float .f32) => 2
  | some .bool => 3
  | _ => 9
def mixF (P : Program) : Nat → List Field → List Nat → Bool
  | _, [], [] => true
  | o, f :: fs, k :: ks => f.name != "_" && f.offset == o && tyKind P f.type == k && (match tyChk P f.type with | some ([_], false, _) => true | _ => false) && mixF P (o + 1) fs ks
  | _, _, _ => false
def mixT (P : Program) (t : TypeId) (ks : List Nat) : Bool :=
  match P.underlying t with
  | some (.struct fs) => !P.stoodInHeld t && !P.eqGuardType P.depth t && mixF P 0 fs.toList ks
  | _ => false
section
variable {P : Program} {W : World} {H : HL} {e : Env} {x y : Operand} {t t' ty : TypeId}
end
section
variable {P : Program} {W : World} {n : Nat} {ops : Array Oper} {Q : Env → HL → Prop} {rest : List Oper} {e : Env} {H : HL}
variable {d : Tmp} {ty t : TypeId} {pos : String} {af : Array Edge} {z : List Value} {ag : Bool} {by_ : Nat}
end
end Go.Proofs.Ytapcgokcfmklbaa

namespace Go.Proofs.Ytapcgokcfmklbaa
open Go Go.RowKit

/-- the first coordinate of the k-th one changed -/
def ptx (ps : List (Int × Int)) (k : Nat) (x : Int) : List (Int × Int) := ps.set k (x, (ps.getD k (0, 0)).2)
/-- points that can be read as long as the blocks handed on stand -/
def OwnP (A : Option Addr) (l : List (Int × Int)) (H : HL) : Prop := ∀ W w, Own W w H → PS w A l
theorem OwnP.nil {A : Option Addr} {H : HL} : OwnP A [] H := fun _ _ _ h => absurd h (Nat.not_lt_zero _)
theorem OwnP.blk {g t : Nat} {l : List (Int × Int)} {junk : List Value} : OwnP (some ⟨g, 0, none⟩) l [⟨g, t, psC l ++ junk⟩] := fun _ _ ho => PS.blk ho (List.mem_cons_self ..)
theorem OwnP.at_ {A : Option Addr} {l : List (Int × Int)} {H H' : HL} {W w : World} (h : OwnP A l H) (ho : Own W w H') (hs : Sbp H H') : PS w A l := h W w (ho.sbp hs)
theorem Sbp.right {H K : HL} : ∀ {L : HL}, Sbp H K → Sbp H (L ++ K)
  | [], h => h
  | _ :: _, h => .skip (Sbp.right h)
/-- points of an argument, or of a block handed on -/
theorem PS.nil {w : World} {A : Option Addr} : PS w A [] := fun h => absurd h (Nat.not_lt_zero _)
section
variable {P : Program} {W : World} {n : Nat} {ops : Array Oper} {Q : Env → HL → Prop} {rest : List Oper} {e : Env} {H : HL}
variable {d : Tmp} {ty t : TypeId} {pos : String} {af : Array Edge} {x y : Operand} {z : List Value} {ag : Bool} {by_ : Nat}
end
end Go.Proofs.Ytapcgokcfmklbaa

namespace Go.Proofs.Ytapcgokcfmklbaa
open Go Go.Proofs Go.RowKit

end Go.Proofs.Ytapcgokcfmklbaa

namespace Go.Proofs.Ytapcgokcfmklbaa
open Go Go.RowKit

section
variable {P : Program} {W : World} {H : HL} {e : Env} {x y : Operand} {t t' ty : TypeId}
end
section
variable {W : World} {b o : Nat} {l : List KF}
theorem KS.at2 (h : KS W (some ⟨b, o, none⟩) l) {i : Nat} (hi : i < l.length) {j : Nat} {v : Value} (hj : (kfC (l.getD i default))[j]? = some v) : W.cell? ⟨b, o + i * 10 + j, none⟩ = some v := by
  obtain ⟨b', o', e1, h1, _⟩ := h.at_ hi
  injection e1 with e2
  injection e2 with e3 e4
  subst e3 e4
  have := h1 j v hj
  rwa [addr_add] at this
theorem KS.ok (h : KS W (some ⟨b, o, none⟩) l) {i : Nat} (hi : i < l.length) : okWin W (l.getD i default).win (l.getD i default).A := by
  obtain ⟨b', o', e1, _, h2⟩ := h.at_ hi
  exact h2
/-- a key frame as a whole -/
theorem KS.whole (h : KS W (Option.some ⟨b, o, none⟩) l) {i : Nat} (hi : i < l.length) {q : Nat} (hq : q = o + i * 10) : ∀ j v, (kfC (l.getD i default))[j]? = Option.some v → W.cell? ((⟨b, q, none⟩ : Addr).add j) = Option.some v := fun j v hj => by
  rw [addr_add, hq]; exact h.at2 hi hj
/-- its window -/
theorem KS.win (h : KS W (Option.some ⟨b, o, none⟩) l) {i : Nat} (hi : i < l.length) {q : Nat} (hq : q = o + i * 10 + 2) : ∀ j v, (winC (l.getD i default).win (l.getD i default).A (l.getD i default).c)[j]? = Option.some v → W.cell? ((⟨b, q, none⟩ : Addr).add j) = Option.some v := fun j v hj => by
  rw [addr_add, hq, show o + i * 10 + 2 + j = o + i * 10 + (j + 2) by omega]; exact h.at2 hi (by unfold kfC; simpa using hj)
/-- its frame -/
theorem KS.frame (h : KS W (Option.some ⟨b, o, none⟩) l) {i : Nat} (hi : i < l.length) {q : Nat} (hq : q = o + i * 10) : W.cell? ⟨b, q, none⟩ = Option.some (iv (l.getD i default).frame) := by
  rw [hq]; exact h.at2 (j := 0) hi rfl
end
end Go.Proofs.Ytapcgokcfmklbaa

namespace Go.Proofs.Ytapcgokcfmklbaa
open Go Go.Proofs Go.RowKit

end Go.Proofs.Ytapcgokcfmklbaa

namespace Go.Proofs.Ytapcgokcfmklbaa
open Go Go.Proofs Go.RowKit

def e3 (k : KF) : Int := if (if decide (k.frame < 0 ∨ 16777216 < k.frame) = true then (3 : Int) else 0) ≠ 0 then (if decide (k.frame < 0 ∨ 16777216 < k.frame) = true then (3 : Int) else 0) else if (if decide (k.ease < 1 ∨ 3 < k.ease) = true then (1 : Int) else 0) ≠ 0 then (if decide (k.ease < 1 ∨ 3 < k.ease) = true then (1 : Int) else 0) else winE k.win
end Go.Proofs.Ytapcgokcfmklbaa

namespace Go.Proofs.Ytapcgokcfmklbaa
open Go Go.RowKit

section
variable {P : Program} {W : World} {H : HL} {e : Env} {x : Operand} {t t' ty : TypeId}
theorem QO.conv_ff {s k : FloatKind} {v d : Nat} (hu : (P.underlying t).isSome = true) (hu' : P.underlying t' = some (.float k)) (hx : ev e x = .float s v) (h : floatToFloatBits s v k = some d) : QO P W H e (.convert t t' x) ty (.float k d) := fun d' pos af gd w _ => by
  have h1 := run_convert_float_float (P := P) (w := w) t t' s k v d hu hu' h
  simp only [execOp, hx, Sem.run_bind, Sem.run_pure]
  simp [h1]
end
/-- the magnitude of a double, in bits -/
def absN (d : Nat) : Nat := (IntKind.u64.wrap ((BitVec.ofInt 64 (d : Int) &&& ~~~ BitVec.ofInt 64 9223372036854775808).toNat : Int)).toNat
def absF (r : Nat) : Option Nat := (floatToFloatBits .f32 r .f64).bind fun d => floatToFloatBits .f64 (absN d) .f32
/-- the pattern -/
def pat (i : Nat) : Nat := cvF (((i * i * 7 + i * 13) % 251 + i : Nat) : Int)
def difR (u v : Nat) : Option Nat := (fop .sub u v).bind absF
/-- how far two singles differ -/
def dif (u v : Nat) : Nat := if cl u = cl v then 0 else cl ((difR u v).getD 0)
def cmpF (p q t : Nat) : Nat := dif (pat (4 * ((3 + t / 9) * 9 + 3 + t / 3 % 3) + t % 3)) (pat (4 * ((1 + q + t / 9) * 9 + 1 + p + t / 3 % 3) + t % 3))
def cmpL (p q n : Nat) : List Nat := (List.range n).map (cmpF p q)
/-- how far the pattern differs from itself, moved -/
def cmpR (p q : Nat) : Nat := fo .quo (sum (cmpL p q 27)) (cvF 27)
theorem cmpR_all : ∀ p : Nat, p < 5 → ∀ q : Nat, q < 5 → nan32 (cmpR p q) = false ∧ (p = 2 ∧ q = 2 → cmpR p q = 0) ∧ (¬ (p = 2 ∧ q = 2) → fcmpB .lss 0 (cmpR p q) = true ∧ fcmpB .lss (cmpR p q) 0 = false) := by decide +kernel
structure TS where
  fnd : Bool
  bx : Int
  bz : Int
  ls : Nat
/-- what is known behind k places, the right one being the k0-th -/
def TInv (k0 : Nat) (dx dz : Int) (k : Nat) (s : TS) : Prop :=
  (k ≤ k0 → s.fnd = decide (0 < k) ∧ (0 < k → fcmpB .lss 0 s.ls = true)) ∧ (k0 < k → s.fnd = true ∧ s.bx = dx ∧ s.bz = dz ∧ s.ls = 0)
theorem TInv.start (k0 : Nat) (dx dz : Int) (s : TS) (h : s.fnd = false) : TInv k0 dx dz 0 s := ⟨fun _ => ⟨h, fun h => by omega⟩, fun h => by omega⟩
theorem TInv.step {px py qx qy k : Nat} {s : TS} (hpx : px < 3) (hpy : py < 3) (hqx : qx < 3) (hqy : qy < 3) (hk : k = 3 * qy + qx) (h : TInv (3 * py + px) ((px : Int) - 1) ((py : Int) - 1) k s) :
    ((!s.fnd) = true ∨ fcmpB .lss (cmpR (qx + 2 - px) (qy + 2 - py)) s.ls = true → TInv (3 * py + px) ((px : Int) - 1) ((py : Int) - 1) (k + 1) ⟨true, (qx : Int) - 1, (qy : Int) - 1, cmpR (qx + 2 - px) (qy + 2 - py)⟩) ∧
    ((!s.fnd) = false → fcmpB .lss (cmpR (qx + 2 - px) (qy + 2 - py)) s.ls = false → TInv (3 * py + px) ((px : Int) - 1) ((py : Int) - 1) (k + 1) s) := by
  obtain ⟨c1, c2, c3⟩ := cmpR_all (qx + 2 - px) (by omega) (qy + 2 - py) (by omega)
  obtain ⟨h1, h2⟩ := h
  refine ⟨fun hu => ⟨fun hk1 => ⟨?_, fun _ => ?_⟩, fun hk1 => ?_⟩, fun hf hu => ⟨fun hk1 => ⟨?_, fun _ => ?_⟩, fun hk1 => ?_⟩⟩
  · exact (decide_eq_true (by omega)).symm
  · exact (c3 (by omega)).1
  · rcases Nat.lt_or_ge (3 * py + px) k with h9 | h9
    · exfalso
      obtain ⟨e1, _, _, e4⟩ := h2 h9
      rw [e1, e4] at hu
      rcases hu with hu | hu
      · cases hu
      · rw [(c3 (by omega)).2] at hu; cases hu
    · have e : qx = px ∧ qy = py := by omega
      refine ⟨rfl, ?_, ?_, c2 (by omega)⟩
      · show (qx : Int) - 1 = _; omega
      · show (qy : Int) - 1 = _; omega
  · have := (h1 (by omega)).1
    rw [decide_eq_true (by omega)]
    cases hs : s.fnd
    · rw [hs] at hf; cases hf
    · rfl
  · rcases Nat.eq_zero_or_pos k with h0 | h0
    · exfalso
      have := (h1 (by omega)).1
      rw [h0] at this
      rw [this] at hf; cases hf
    · exact (h1 (by omega)).2 h0
  · rcases Nat.lt_or_ge (3 * py + px) k with h9 | h9
    · exact h2 h9
    · exfalso
      have e : qx + 2 - px = 2 ∧ qy + 2 - py = 2 := by omega
      rw [c2 e] at hu
      rcases Nat.eq_zero_or_pos k with h0 | h0
      · have := (h1 (by omega)).1
        rw [h0] at this
        rw [this] at hf; cases hf
      · rw [(h1 (by omega)).2 h0] at hu; cases hu
theorem TInv.done {px py : Nat} {dx dz : Int} {s : TS} (hpx : px < 3) (hpy : py < 3) (h : TInv (3 * py + px) dx dz 9 s) : s.fnd = true ∧ s.bx = dx ∧ s.bz = dz ∧ s.ls = 0 := h.2 (by omega)
end Go.Proofs.Ytapcgokcfmklbaa

namespace Go.Proofs.Ytapcgokcfmklbaa
open Go Go.Proofs Go.RowKit

section
variable {P : Program} {W : World} {H : HL} {e : Env} {x y : Operand} {t t' ty : TypeId}
end
end Go.Proofs.Ytapcgokcfmklbaa

namespace Go.Proofs.Ytapcgokcfmklbaa
open Go Go.RowKit

def wV (u : Win) (A : Option Addr) (c : Nat) : Value := .agg #[iv u.kind, flt u.x, flt u.y, flt u.w, flt u.h, flt u.soft, .slice A u.pts.length c, .bool u.out]
end Go.Proofs.Ytapcgokcfmklbaa

namespace Go.Proofs.Ytapcgokcfmklbaa
open Go Go.RowKit

/-- none of X has come up -/
def noX (X : List Nat) (listed : Array Bool) : Bool := X.all fun x => !listed.getD x false
theorem noX_set {X : List Nat} {listed : Array Bool} {i : Nat} (h : noX X (listed.setIfInBounds i true) = true) : noX X listed = true := by
  unfold noX at *
  rw [List.all_eq_true] at h ⊢
  intro x hx
  have h1 := h x hx
  by_cases e : i = x
  · subst e
    rcases Nat.lt_or_ge i listed.size with hl | hl
    · simp [hl] at h1
    · simp [Array.getElem?_eq_none hl]
  · rw [getD_set_ne false e] at h1; exact h1
theorem noX_ne {X : List Nat} {listed : Array Bool} {j : Nat} (h : noX X listed = true) (hj : X.contains j = false) : noX X (listed.setIfInBounds j true) = true := by
  unfold noX at *
  rw [List.all_eq_true] at h ⊢
  intro x hx
  have h1 := h x hx
  have e : j ≠ x := fun e => by
    subst e
    have : X.contains j = true := by simpa using hx
    rw [this] at hj; cases hj
  rw [getD_set_ne false e]; exact h1
/-- Whatever order is picked from here on; behind each operation the world meets T, and S as long as none of X has come up. -/
def wpAny2 (P : Program) (ops : Array Oper) (Q : Exit → Act → World → Prop) (S T : World → Prop) (X : List Nat) : Nat → Array Bool → Act → World → Prop
  | 0, listed, a, w => Region.ready .any ops listed = [] ∧ Q .normal a w
  | fuel + 1, listed, a, w =>
    (Region.ready .any ops listed = [] → Q .normal a w) ∧
    ∀ i ∈ Region.ready .any ops listed, wpOp P ops Q i (fun a' w' => ((noX X (listed.setIfInBounds i true) = true → S w') ∧ T w') ∧ wpAny2 P ops Q S T X fuel (listed.setIfInBounds i true) a' w') a w
/-- each operation of X waits for i -/
def waitsX (ops : Array Oper) (X : List Nat) (i : Nat) : Bool := X.all fun j => match ops[j]? with
  | some o => o.after.any fun e => Region.binds .any e && e.on == i
  | none => true
section
variable {P : Program} {ops : Array Oper} {Q : Exit → Act → World → Prop} {S T : World → Prop} {X : List Nat}
theorem wpAny_of_2 : ∀ (fuel : Nat) (listed : Array Bool) (a : Act) (w : World), wpAny2 P ops Q S T X fuel listed a w → wpAny P .any ops Q fuel listed a w
  | 0, _, _, _, h => h
  | fuel + 1, _, _, _, h => ⟨h.1, fun i hi => wpOp_mono (fun _ _ h' => wpAny_of_2 fuel _ _ _ h'.2) (h.2 i hi)⟩
theorem waitsX_spec {i : Nat} (h : waitsX ops X i = true) {j : Nat} {o : Oper} (hj : ops[j]? = some o) (hx : X.contains j = true) : ∃ e ∈ o.after, Region.binds .any e = true ∧ e.on = i := by
  unfold waitsX at h
  have h1 := List.all_eq_true.1 h j (by simpa using hx)
  rw [hj] at h1
  obtain ⟨e, he, hb⟩ := Array.any_eq_true'.1 h1
  simp only [Bool.and_eq_true, beq_iff_eq] at hb
  exact ⟨e, he, hb.1, hb.2⟩
/-- What only reads may be taken first: 'V' is what its value leans on. -/
theorem wpAny2_first {i : Nat} {oi : Oper} {v : Value} {V : World → Prop} (hiX : X.contains i = false) (hi : ops[i]? = some oi) (hsel : ∀ (j : Nat) (o : Oper) cs b, ops[j]? = some o → o.op ≠ .select cs b)
    (hQ : ∀ c a w, Q (.panic c) (a.put oi.dst v) w → Q (.panic c) a w) :
    ∀ (fuel : Nat) (listed : Array Bool) (a : Act) (w : World), (V = T ∨ (V = S ∧ waitsX ops X i = true ∧ noX X listed = true)) →
      (∀ j oj, ops[j]? = some oj → j ≠ i → listed.getD j true = false → (∀ e ∈ oj.after, Region.binds .any e = true → e.on ≠ i) → oi.apart ops oj = true) →
      i ∈ Region.ready .any ops listed → YieldsIf P ops V oi v a → V w → (noX X listed = true → S w) → T w →
      wpAny2 P ops Q S T X fuel (listed.setIfInBounds i true) (a.put oi.dst v) w → wpAny2 P ops Q S T X (fuel + 1) listed a w := by
  intro fuel
  induction fuel with
  | zero =>
    intro listed a w _ _ hr hy hV hS hT H
    refine ⟨fun h => (by rw [h] at hr; cases hr), fun j hj => ?_⟩
    by_cases hji : j = i
    · subst hji; exact hy.wpOp hi hV ⟨⟨fun h => hS (noX_set h), hT⟩, H⟩
    · have := ready_mono hj hji
      rw [H.1] at this
      cases this
  | succ fuel ih =>
    intro listed a w hk hfree hr hy hV hS hT H
    refine ⟨fun h => (by rw [h] at hr; cases hr), fun j hj => ?_⟩
    by_cases hji : j = i
    · subst hji; exact hy.wpOp hi hV ⟨⟨fun h => hS (noX_set h), hT⟩, H⟩
    · have h1 := H.2 j (ready_mono hj hji)
      obtain ⟨hjun, oj, hoj, hall⟩ := mem_ready.1 hj
      have hnot : ∀ e ∈ oj.after, Region.binds .any e = true → e.on ≠ i := fun e he hb heq => by
        have h1 := hall e he hb
        have h0 := (mem_ready.1 hr).1
        rw [heq] at h1
        rcases Nat.lt_or_ge i listed.size with h' | h'
        · simp [h'] at h0 h1; rw [h0] at h1; cases h1
        · simp [Array.getElem?_eq_none h'] at h1
      have h2 := wpOp_putIf hoj (hfree j oj hoj hji hjun hnot) (fun cs b => hsel i oi cs b hi) (fun cs b => hsel j oj cs b hoj) hQ hy h1
      have hfree' : ∀ q ok, ops[q]? = some ok → q ≠ i → (listed.setIfInBounds j true).getD q true = false →
          (∀ e ∈ ok.after, Region.binds .any e = true → e.on ≠ i) → oi.apart ops ok = true := fun q ok hq hqi hun hno => by
        refine hfree q ok hq hqi ?_ hno
        by_cases hjq : j = q
        · subst hjq; exact hjun
        · rw [getD_set_ne true hjq] at hun; exact hun
      have hkj : V = T ∨ (V = S ∧ waitsX ops X i = true ∧ noX X (listed.setIfInBounds j true) = true) := by
        rcases hk with hk | ⟨hk, hw, hn⟩
        · exact .inl hk
        · refine .inr ⟨hk, hw, noX_ne hn ?_⟩
          cases hx : X.contains j with
          | false => rfl
          | true =>
            obtain ⟨e, he, hb, ho⟩ := waitsX_spec hw hoj hx
            exact absurd ho (hnot e he hb)
      have hcomm : (listed.setIfInBounds i true).setIfInBounds j true = (listed.setIfInBounds j true).setIfInBounds i true := Array.setIfInBounds_comm _ _ (Ne.symm hji)
      refine wpOp_mono (fun a' w' h3 => ?_) h2
      obtain ⟨hy', ⟨hS', hT'⟩, hW'⟩ := h3
      rw [hcomm] at hS' hW'
      have hSj : noX X (listed.setIfInBounds j true) = true → S w' := fun h => hS' (noX_ne h hiX)
      have hVj : V w' := by
        rcases hkj with hk | ⟨hk, _, hn⟩
        · rw [hk]; exact hT'
        · rw [hk]; exact hSj hn
      exact ⟨⟨hSj, hT'⟩, ih (listed.setIfInBounds j true) a' w' hkj hfree' (ready_mono hr (Ne.symm hji)) hy' hVj hSj hT' hW'⟩
end
/-! ### in the calculus -/
def RT2 (P : Program) (W : World) (n : Nat) (ops : Array Oper) (X : List Nat) (HS HT : HL) (Q : Env → HL → Prop) (fuel : Nat) (listed : Array Bool) (e : Env) (H : HL) : Prop :=
  Region.noSelect ops = true → (noX X listed = true → HS.Sublist H) → HT.Sublist H → ∀ a w, Rep n a e → Own W w H → wpAny2 P ops (PostN W n Q) (fun w => Own W w HS) (fun w => Own W w HT) X fuel listed a w
section
variable {P : Program} {W : World} {n : Nat} {ops : Array Oper} {X : List Nat} {HS HT H : HL} {Q : Env → HL → Prop} {fuel : Nat} {listed : Array Bool} {e : Env}
variable {d : Tmp} {op : Op} {ty : TypeId} {pos : String} {af : Array Edge} {v : Value} {i j : Nat}
theorem RT2.done (hr : Region.ready .any ops listed = []) (h : Q e H) : RT2 P W n ops X HS HT Q fuel listed e H := by
  intro _ _ _ a w hrep ho
  have hp : PostN W n Q .normal a w := ⟨e, H, hrep, ho, h⟩
  cases fuel with
  | zero => exact ⟨hr, hp⟩
  | succ f => exact ⟨fun _ => hp, by rw [hr]; simp⟩
def take2OK (ops : Array Oper) (X : List Nat) (listed : Array Bool) (i : Nat) : Bool := !X.contains i && Region.free .any ops listed i && (Region.ready .any ops listed).contains i
def take1OK (ops : Array Oper) (X : List Nat) (listed : Array Bool) (i : Nat) : Bool := take2OK ops X listed i && waitsX ops X i && noX X listed
/-- a reading of what stands until X -/
theorem RT2.take1 (hi : ops[i]? = some ⟨some d, op, ty, pos, af, none⟩) (hc : take1OK ops X listed i = true) (hd : Nat.blt d n = true) (hq : QO P W HS e op ty v)
    (h : RT2 P W n ops X HS HT Q fuel (listed.setIfInBounds i true) (put e d v) H) : RT2 P W n ops X HS HT Q (fuel + 1) listed e H := by
  intro hs hS hT a w hrep ho
  simp only [take1OK, take2OK, Bool.and_eq_true, Bool.not_eq_true'] at hc
  obtain ⟨⟨⟨⟨hx, hf⟩, hr⟩, hw⟩, hn⟩ := hc
  refine wpAny2_first (V := fun w => Own W w HS) (v := v) hx hi (Region.noSelect_spec hs) hQpanic fuel listed a w (.inr ⟨rfl, hw, hn⟩) (Region.free_spec hi hf) (by simpa using hr) ?_ (ho.sub (hS hn)) (fun h => ho.sub (hS h)) (ho.sub hT) (h hs (fun hh => hS (noX_set hh)) hT _ _ (hrep.put (d := some d) hd v) ho)
  refine .inl ⟨rfl, fun w' hw' => ?_⟩
  rw [hrep.eval]
  exact hq _ _ _ _ w' hw'
/-- a reading of what stands throughout -/
theorem RT2.take2 (hi : ops[i]? = some ⟨some d, op, ty, pos, af, none⟩) (hc : take2OK ops X listed i = true) (hd : Nat.blt d n = true) (hq : QO P W HT e op ty v)
    (h : RT2 P W n ops X HS HT Q fuel (listed.setIfInBounds i true) (put e d v) H) : RT2 P W n ops X HS HT Q (fuel + 1) listed e H := by
  intro hs hS hT a w hrep ho
  simp only [take2OK, Bool.and_eq_true, Bool.not_eq_true'] at hc
  obtain ⟨⟨hx, hf⟩, hr⟩ := hc
  refine wpAny2_first (V := fun w => Own W w HT) (v := v) hx hi (Region.noSelect_spec hs) hQpanic fuel listed a w (.inl rfl) (Region.free_spec hi hf) (by simpa using hr) ?_ (ho.sub hT) (fun h => ho.sub (hS h)) (ho.sub hT) (h hs (fun hh => hS (noX_set hh)) hT _ _ (hrep.put (d := some d) hd v) ho)
  refine .inl ⟨rfl, fun w' hw' => ?_⟩
  rw [hrep.eval]
  exact hq _ _ _ _ w' hw'
/-- the only one that may come up, before X -/
theorem RT2.one {o : Oper} (hr : Region.ready .any ops listed = [i]) (hi : ops[i]? = some o)
    (h : RS P W n ops (fun e' H' => HS.Sublist H' ∧ HT.Sublist H' ∧ RT2 P W n ops X HS HT Q fuel (listed.setIfInBounds i true) e' H') [o] e H) :
    RT2 P W n ops X HS HT Q (fuel + 1) listed e H := by
  intro hs hS hT a w hrep ho
  refine ⟨fun h0 => (by rw [hr] at h0; cases h0), fun q hq => ?_⟩
  rw [hr] at hq
  obtain rfl : q = i := by simpa using hq
  exact wpOp_mono (fun a' w' ⟨e', H', h1, h2, h3, h4, h5⟩ => ⟨⟨fun _ => h2.sub h3, h2.sub h4⟩, h5 hs (fun _ => h3) h4 a' w' h1 h2⟩) (wpOp_of_RS hi h hrep ho)
/-- the only one that may come up, of X or behind it -/
theorem RT2.oneX {o : Oper} (hr : Region.ready .any ops listed = [i]) (hi : ops[i]? = some o) (hx : noX X (listed.setIfInBounds i true) = false)
    (h : RS P W n ops (fun e' H' => HT.Sublist H' ∧ RT2 P W n ops X HS HT Q fuel (listed.setIfInBounds i true) e' H') [o] e H) :
    RT2 P W n ops X HS HT Q (fuel + 1) listed e H := by
  intro hs hS hT a w hrep ho
  refine ⟨fun h0 => (by rw [hr] at h0; cases h0), fun q hq => ?_⟩
  rw [hr] at hq
  obtain rfl : q = i := by simpa using hq
  exact wpOp_mono (fun a' w' ⟨e', H', h1, h2, h4, h5⟩ => ⟨⟨fun h => (by rw [hx] at h; cases h), h2.sub h4⟩, h5 hs (fun h => (by rw [hx] at h; cases h)) h4 a' w' h1 h2⟩) (wpOp_of_RS hi h hrep ho)
theorem CS.draw2 {l : List Oper} {id : Nat} {Q : Exit → Env → HL → Prop} (X : List Nat) {HT : HL} (hT : HT.Sublist H) (hm : P.follows .mixedOrders = true) (hs : Region.noSelect l.toArray = true)
    (h : RT2 P W n l.toArray X H HT (fun e H => Q .normal e H) l.length (Array.replicate l.length false) e H) : CS P W n (.region id l.toArray true) Q e H := by
  intro a w hr ho
  refine wp_mono (Q := PostN W n (fun e H => Q .normal e H)) (wp_region_any hm ?_) fun x a' w' hq => ?_
  · have := h hs (fun _ => List.Sublist.refl _) hT a w.drew hr ho.drew
    exact wpAny_of_2 _ _ _ _ this
  · cases x <;> simp only [PostN] at hq
    exact hq
end
end Go.Proofs.Ytapcgokcfmklbaa

namespace Go.Proofs.Ytapcgokcfmklbaa
open Go Go.Proofs Go.RowKit

end Go.Proofs.Ytapcgokcfmklbaa

namespace Go.Proofs.Ytapcgokcfmklbaa
open Go Go.RowKit

section
variable {P : Program} {W : World} {H : HL} {e : Env} {x y : Operand} {t t' ty : TypeId}
end
/-- a window without points, moved -/
def movNW (u : Win) (dx dy : Int) : Win := ⟨u.kind, addV u.x dx, addV u.y dy, u.w, u.h, u.soft, u.pts, u.out⟩
/-- a window of points, the first k moved -/
def movPW (u : Win) (dx dy : Int) (k : Nat) : Win := ⟨u.kind, u.x, u.y, u.w, u.h, u.soft, movPs u.pts dx dy k, u.out⟩
section
variable {u : Win} {dx dy : Int} {k : Nat}
end
end Go.Proofs.Ytapcgokcfmklbaa

namespace Go.Proofs.Ytapcgokcfmklbaa
open Go Go.Proofs Go.RowKit

end Go.Proofs.Ytapcgokcfmklbaa

namespace Go.Proofs.Ytapcgokcfmklbaa
open Go Go.RowKit

/-- the first k points, mixed -/
def mixG (ps qs : List (Int × Int)) (t k : Nat) : List (Int × Int) := (List.range k).map fun i => mixP (ps.getD i (0, 0)) (qs.getD i (0, 0)) t
/-- points of the call's own, or of a key frame -/
def PtsOf (l : List KF) (A : Option Addr) (ps : List (Int × Int)) (H : HL) : Prop := OwnP A ps H ∨ ∃ j, j < l.length ∧ A = (l.getD j default).A ∧ ps = (l.getD j default).win.pts
theorem PtsOf.at_ {l : List KF} {A A0 : Option Addr} {ps : List (Int × Int)} {H H' : HL} {W w : World} (h : PtsOf l A ps H) (hA : KS w A0 l) (ho : Own W w H') (hs : Sbp H H') : PS w A ps := by
  rcases h with h | ⟨j, hj, rfl, rfl⟩
  · exact h.at_ ho hs
  · obtain ⟨_, _, _, _, h2⟩ := hA.at_ hj
    exact h2.1
end Go.Proofs.Ytapcgokcfmklbaa

namespace Go.Proofs.Ytapcgokcfmklbaa
open Go Go.Proofs Go.RowKit

end Go.Proofs.Ytapcgokcfmklbaa

namespace Go.Proofs.Ytapcgokcfmklbaa
open Go Go.RowKit

end Go.Proofs.Ytapcgokcfmklbaa

namespace Go.Proofs.Ytapcgokcfmklbaa
open Go Go.RowKit

/-- a single that is a whole number (either zero for 0) -/
def whl (x : Nat) (n : Int) : Prop := ∃ s m i, Ieee.single.read x = .number s m i ∧ -149 ≤ i ∧ ∀ L : Nat, L = 1074 → val64 s m i = n * 2 ^ L
theorem p2L (L : Nat) : (2 : Int) ^ L ≠ 0 := Int.ne_of_gt (Int.pow_pos (by decide))
theorem cv_near (n : Int) : cvF n = Ieee.single.nearest (decide (n < 0)) n.natAbs 0 := rfl
theorem cv_val {n : Int} (h : n.natAbs ≤ 16777215) : whl (cvF n) n ∧ ∃ m i, Ieee.single.read (cvF n) = .number (decide (n < 0)) m i := by
  have e : cvF n = Ieee.single.nearest (decide (n < 0)) n.natAbs 0 := rfl
  by_cases h0 : n = 0
  · subst h0
    have hr : Ieee.single.read (cvF 0) = .number false 0 (-149) := by decide +kernel
    exact ⟨⟨false, 0, -149, hr, by omega, fun L _ => by unfold val64 Ieee.signed; simp⟩, 0, -149, hr⟩
  · have ha : n.natAbs ≠ 0 := by omega
    have hl := single_log ha h
    have g1 : Ieee.single.fractionBits = 23 := rfl
    have g2 : Ieee.single.leastPlace = -149 := by decide
    have g3 : Ieee.single.binade = 8388608 := by decide
    have g4 : Ieee.single.infRung = 2139095040 := by decide
    have c23 : (2 : Nat) ^ 23 = 8388608 := by decide
    have c24 : (2 : Nat) ^ (23 + 1) = 16777216 := by decide
    have hnr := nearest_rnd Ieee.single (decide (n < 0)) ha (p := 0) (L := (n.natAbs.log2 : Int) - 23) (by rw [g1, g2]; omega)
    obtain ⟨k, hk⟩ : ∃ k, 23 - n.natAbs.log2 = k := ⟨_, rfl⟩
    have q1 : (0 - ((n.natAbs.log2 : Int) - 23)).toNat = k := by omega
    have q2 : ((n.natAbs.log2 : Int) - 23 - 0).toNat = 0 := by omega
    rw [q1, q2, rnd_zero, g2, g3, g4] at hnr
    have hlog : (n.natAbs * 2 ^ k).log2 = 23 := by rw [log2_up ha]; omega
    obtain ⟨K, hK⟩ : ∃ K, n.natAbs * 2 ^ k = K := ⟨_, rfl⟩
    rw [hK] at hnr hlog
    have hK0 : K ≠ 0 := by rw [← hK]; exact Nat.mul_ne_zero ha (Nat.ne_of_gt (Nat.two_pow_pos _))
    have h1 := Nat.log2_self_le hK0
    have h2 : K < 2 ^ (K.log2 + 1) := Nat.lt_log2_self
    rw [hlog, c23] at h1
    rw [hlog, c24] at h2
    obtain ⟨u, hu⟩ : ∃ u : Nat, ((n.natAbs.log2 : Int) - 23 - -149).toNat = u := ⟨_, rfl⟩
    have hub : u ≤ 149 := by omega
    rw [hu, Nat.min_eq_left (by omega)] at hnr
    have hrd := word_read (decide (n < 0)) (R := u * 8388608 + K) (by omega)
    rw [if_neg (by omega)] at hrd
    rw [e, hnr]
    have e1 : 8388608 + (u * 8388608 + K) % 8388608 = K := by omega
    have e2 : (u * 8388608 + K) / 8388608 - 1 = u := by omega
    rw [e1, e2] at hrd
    refine ⟨⟨_, _, _, hrd, by omega, fun L hL => ?_⟩, _, _, hrd⟩
    unfold val64 Ieee.signed
    rw [Nat.shiftLeft_eq, ← hK, Nat.mul_assoc, ← Nat.pow_add, show k + (-149 + (u : Int) + 1074).toNat = L by omega]
    have hc : ((n.natAbs * 2 ^ L : Nat) : Int) = (n.natAbs : Int) * 2 ^ L := by rw [Int.natCast_mul, Int.natCast_pow]; rfl
    rw [hc]
    by_cases hn : n < 0
    · rw [decide_eq_true hn, if_pos rfl, ← Int.neg_mul]; congr 1; omega
    · rw [decide_eq_false hn, if_neg (by decide)]; congr 1; omega
end Go.Proofs.Ytapcgokcfmklbaa

namespace Go.Proofs.Ytapcgokcfmklbaa
open Go Go.RowKit

/-! the magnitude -/
/-! an edge -/
def fadeV (d soft : Nat) : Nat := if fcmpB .lss d soft then fo .sub 1065353216 (smoothV (fo .quo d soft)) else 0
def edgeV (d soft : Nat) : Nat := if fcmpB .gtr d 0 then fadeV d soft else 1065353216
/-- turned out or not: a number -/
def turnV (out : Bool) (v : Nat) : Nat := if out then fo .sub 1065353216 v else cl v
end Go.Proofs.Ytapcgokcfmklbaa

namespace Go.Proofs.Ytapcgokcfmklbaa
open Go Go.RowKit

def rootF (s : Nat) : Option Nat := (floatToFloatBits .f32 s .f64).bind fun d => (Ieee.double.sqrt d).bind fun r => floatToFloatBits .f64 r .f32
theorem nn_read {s : Nat} (h : s ≤ 2139095040) : (∃ m i, Ieee.single.read s = .number false m i) ∨ s = 2139095040 := by
  by_cases h1 : s = 2139095040
  · exact .inr h1
  · have hw : Ieee.single.word false s = s := rfl
    have := word_read false (R := s) (by omega)
    rw [hw] at this
    split at this
    · exact .inl ⟨_, _, this⟩
    · exact .inl ⟨_, _, this⟩
end Go.Proofs.Ytapcgokcfmklbaa

namespace Go.Proofs.Ytapcgokcfmklbaa
open Go Go.RowKit

/-! numbers that are not negative -/
theorem near_le (m : Nat) (i : Int) : Ieee.single.nearest false m i ≤ 2139095040 := by
  have e3 : Ieee.single.infRung = 2139095040 := rfl
  by_cases h : m = 0
  · subst h
    unfold Ieee.Format.nearest
    rw [if_pos rfl]; decide
  · rw [nearest_rnd Ieee.single false h rfl]
    have e4 : ∀ R, Ieee.single.word false R = R := fun _ => rfl
    rw [e4, e3]; exact Nat.min_le_right _ _
theorem inf_read : Ieee.single.read 2139095040 = .infinity false := by decide +kernel
theorem nn_num {a : Nat} (h : a ≤ 2139095040) : nan32 a = false := by
  unfold nan32; exact decide_eq_false (by omega)
/-! what a window covers -/
def maxV (a b : Nat) : Nat := if fcmpB .gtr b a then b else a
def boxV (u : Win) (p q : Int) : Nat := edgeV (maxV (fo .sub (cvF (p.natAbs : Int)) u.w) (fo .sub (cvF (q.natAbs : Int)) u.h)) u.soft
def sqV (u : Win) (p q : Int) : Nat := fo .add (fo .mul (fo .quo (cvF p) u.w) (fo .quo (cvF p) u.w)) (fo .mul (fo .quo (cvF q) u.h) (fo .quo (cvF q) u.h))
def rootV (s : Nat) : Nat := cl ((rootF s).getD 0)
def leastV (u : Win) : Nat := if fcmpB .lss u.h u.w then u.h else u.w
def ellV (u : Win) (p q : Int) : Nat := if fcmpB .gtr (rootV (sqV u p q)) 1065353216 then edgeV (fo .mul (fo .sub (rootV (sqV u p q)) 1065353216) (leastV u)) u.soft else 1065353216
/-! edges that are crossed -/
def crE (p q : Int × Int) (x y : Int) : Bool :=
  if decide (y < p.2) = decide (y < q.2) then false else (decide (p.2 < q.2) && decide ((x - p.1) * (q.2 - p.2) < (q.1 - p.1) * (y - p.2))) || (decide (q.2 ≤ p.2) && decide ((q.1 - p.1) * (y - p.2) < (x - p.1) * (q.2 - p.2)))
def crN (l : List (Int × Int)) (x y : Int) : Nat → Nat
  | 0 => 0
  | k + 1 => crN l x y k + if crE (l.getD k (0, 0)) (l.getD ((k + 1) % l.length) (0, 0)) x y then 1 else 0
def polyV (u : Win) (x y : Int) : Nat := if crN u.pts x y u.pts.length % 2 = 1 then 1065353216 else 0
/-- what a right window covers at a place; p, q: how far the place lies from it -/
def covV (u : Win) (p q x y : Int) : Nat := turnV u.out (if u.kind = 1 then boxV u p q else if u.kind = 2 then ellV u p q else polyV u x y)
/-! a single made a whole number -/
section
variable {P : Program} {W : World} {H : HL} {e : Env} {x : Operand} {t t' ty : TypeId}
theorem QO.conv_f32_i64n {d : Nat} {n : Int} (hu : (P.underlying t).isSome = true) (hu' : P.underlying t' = some (.int .i64)) (hx : ev e x = .float .f32 d) (h : floatToIntVal .f32 d .i64 = some n) : QO P W H e (.convert t t' x) ty (.int .i64 n) := fun d' pos af gd w _ => by
  have h1 := run_convert_float_int (P := P) (w := w) t t' .f32 .i64 d n hu hu' h
  simp only [execOp, hx, Sem.run_bind, Sem.run_pure]
  simp [h1]
end
end Go.Proofs.Ytapcgokcfmklbaa

namespace Go.Proofs.Ytapcgokcfmklbaa
open Go Go.RowKit

section
variable {u : Win} {p q : Int}
end
/-! crossings -/
section
variable {p q : Int × Int} {x y a b : Int}
end
end Go.Proofs.Ytapcgokcfmklbaa

namespace Go.Proofs.Ytapcgokcfmklbaa
open Go Go.Proofs Go.RowKit

end Go.Proofs.Ytapcgokcfmklbaa

namespace Go.Proofs.Ytapcgokcfmklbaa
open Go Go.Proofs Go.RowKit

section
variable {P : Program} {W : World} {H : HL} {e : Env} {x y : Operand} {t t' ty : TypeId}
end

def covF (u : Win) (X Y : Int) (a : Nat) (m n : Int) (i : Nat) : Nat := covV u (X + ((i % a : Nat) : Int) - m) (Y + ((i / a : Nat) : Int) - n) (X + ((i % a : Nat) : Int)) (Y + ((i / a : Nat) : Int))

end Go.Proofs.Ytapcgokcfmklbaa

namespace Go.Proofs.Ytapcgokcfmklbaa
open Go Go.RowKit

/-- where a moved window's corner is -/
def mvC (u : Win) (m d : Int) : Int := if u.kind ≠ 3 then m + d else m
theorem w2 {a b : Nat} {k : Nat} (h : k < 2) : ([flt a, flt b] : List Value)[k]? = some (flt (f2 a b k)) := by
  match k, h with
  | 0, _ => rfl
  | 1, _ => rfl
theorem listAt {f : Nat → Nat} {N k : Nat} (h : k < N) : (((List.range N).map f).map flt)[k]? = some (flt (f k)) := by
  rw [List.getElem?_map, List.getElem?_map, List.getElem?_range h]; rfl
end Go.Proofs.Ytapcgokcfmklbaa

namespace Go.Proofs.Ytapcgokcfmklbaa
open Go Go.RowKit

/-- not below zero (either zero) -/
def nng (x : Nat) : Prop := (∃ s m i, Ieee.single.read x = .number s m i ∧ (m = 0 ∨ s = false)) ∨ x = 2139095040
theorem nng_nn {x : Nat} (h : x ≤ 2139095040) : nng x := by
  rcases nn_read h with ⟨m, i, h1⟩ | h1
  · exact .inl ⟨_, _, _, h1, .inr rfl⟩
  · exact .inr h1
theorem word0_read (s : Bool) : Ieee.single.read (Ieee.single.word s 0) = .number s 0 (-149) := by
  rw [word_read s (R := 0) (by omega), if_pos (by omega)]
theorem nng_word0 (s : Bool) : nng (Ieee.single.word s 0) := .inl ⟨s, 0, -149, word0_read s, .inl rfl⟩
theorem near0 (s : Bool) (i : Int) : Ieee.single.nearest s 0 i = Ieee.single.word s 0 := by unfold Ieee.Format.nearest; rw [if_pos rfl]
theorem nng_near {s : Bool} {m : Nat} {i : Int} (h : m = 0 ∨ s = false) : nng (Ieee.single.nearest s m i) := by
  rcases h with h | h
  · subst h; rw [near0]; exact nng_word0 s
  · subst h; exact nng_nn (near_le _ _)
theorem nng_num {x : Nat} (h : nng x) : nan32 x = false := by
  rcases h with ⟨s, m, i, hr, _⟩ | rfl
  · exact nan_of_num (by unfold numB; rw [hr])
  · decide
theorem val_of_fval {x : Nat} {s : Bool} {m : Nat} {i : Int} (hr : Ieee.single.read x = .number s m i) {K : Nat} (hK : K = 925) : val64 s m i = fval x * 2 ^ K := by
  have hb := num_bd hr
  unfold val64 fval
  rw [hr]
  show _ = Ieee.signed s m (i + 149).toNat * 2 ^ K
  rw [← signed_shift]; congr 1; omega
theorem num_read {x : Nat} (h : numB x = true) : ∃ s m i, Ieee.single.read x = .number s m i := by
  unfold numB at h
  split at h
  · rename_i s m i e; exact ⟨s, m, i, e⟩
  · cases h
/-- a difference of two numbers -/
theorem sub_is {v w : Nat} (hv : numB v = true) (hw : numB w = true) : (fval v = fval w → ∃ s, fop .sub v w = some (Ieee.single.word s 0)) ∧ (fval v ≠ fval w → ∀ K : Nat, K = 925 → fop .sub v w = some (Ieee.single.nearest (decide (fval v < fval w)) ((fval v - fval w).natAbs * 2 ^ K) (-1074))) := by
  obtain ⟨s, m, i, h1⟩ := num_read hv
  obtain ⟨t, n, j, h2⟩ := num_read hw
  have b1 := num_bd h1
  have b2 := num_bd h2
  have key : ∀ K : Nat, K = 925 → val64 s m i + val64 (!t) n j = (fval v - fval w) * 2 ^ K := fun K hK => by
    rw [val_neg, val_of_fval h1 hK, val_of_fval h2 hK, Int.sub_mul]; omega
  have hs : fop .sub v w = ((Ieee.Datum.number s m i).sum (.number (!t) n j)).map Ieee.single.write := by
    show Ieee.single.sub v w = _
    unfold Ieee.Format.sub
    rw [h1, h2]; rfl
  refine ⟨fun h => ?_, fun h K hK => ?_⟩
  · have := key 925 rfl
    rw [h, Int.sub_self, Int.zero_mul] at this
    exact ⟨_, hs.trans (sum_zero Ieee.single (by omega) (by omega) this)⟩
  · have h3 := key K hK
    have hk : (0 : Int) < 2 ^ K := Int.pow_pos (by decide)
    have h4 : val64 s m i + val64 (!t) n j ≠ 0 := by rw [h3]; exact Int.mul_ne_zero (by omega) (p2L K)
    rw [hs, sum_write Ieee.single (by omega) (by omega) h4, h3]
    have e3 : decide ((fval v - fval w) * 2 ^ K < 0) = decide (fval v < fval w) := by
      apply decide_eq_decide.2
      constructor
      · intro h
        rcases Int.lt_or_le (fval v) (fval w) with h1 | h1
        · exact h1
        · have := Int.mul_nonneg (show 0 ≤ fval v - fval w by omega) (Int.le_of_lt hk); omega
      · intro h; exact Int.mul_neg_of_neg_of_pos (by omega) hk
    have e4 : ((fval v - fval w) * 2 ^ K).natAbs = (fval v - fval w).natAbs * 2 ^ K := by rw [Int.natAbs_mul, Int.natAbs_pow]; rfl
    rw [e3, e4]
theorem sub_nng {v w : Nat} (hv : numB v = true) (hw : numB w = true) (h : fval w ≤ fval v) : ∃ r, fop .sub v w = some r ∧ nng r := by
  obtain ⟨h1, h2⟩ := sub_is hv hw
  by_cases he : fval v = fval w
  · obtain ⟨s, h3⟩ := h1 he
    exact ⟨_, h3, nng_word0 s⟩
  · have h3 := h2 he 925 rfl
    rw [decide_eq_false (by omega)] at h3
    exact ⟨_, h3, nng_near (.inr rfl)⟩
theorem near_pos {m : Nat} {i : Int} (h0 : m ≠ 0) (hi : -149 ≤ i) : 1 ≤ Ieee.single.nearest false m i := by
  have g1 : Ieee.single.fractionBits = 23 := rfl
  have g2 : Ieee.single.leastPlace = -149 := by decide
  have g3 : Ieee.single.binade = 8388608 := by decide
  have g4 : Ieee.single.infRung = 2139095040 := by decide
  obtain ⟨L, hL⟩ : ∃ L, max (i + (m.log2 : Int) - Ieee.single.fractionBits) Ieee.single.leastPlace = L := ⟨_, rfl⟩
  have hn := nearest_rnd Ieee.single false h0 hL
  rw [g1, g2] at hL
  rw [g2, g3, g4] at hn
  have e4 : ∀ R, Ieee.single.word false R = R := fun _ => rfl
  rw [hn, e4]
  have hR : 1 ≤ (L - -149).toNat * 8388608 + rnd (m * 2 ^ (i - L).toNat) (L - i).toNat := by
    by_cases h1 : L = -149
    · rw [show (L - i).toNat = 0 by omega, rnd_zero]
      have := Nat.mul_pos (Nat.pos_of_ne_zero h0) (Nat.two_pow_pos (i - L).toNat)
      omega
    · omega
  exact Nat.le_min.2 ⟨hR, by omega⟩
theorem sub_pos {v w : Nat} (hv : numB v = true) (hw : numB w = true) (h : fval w < fval v) : ∃ r, fop .sub v w = some r ∧ 1 ≤ r ∧ r ≤ 2139095040 := by
  obtain ⟨_, h2⟩ := sub_is hv hw
  obtain ⟨K, hK⟩ : ∃ K : Nat, K = 925 := ⟨_, rfl⟩
  have h3 := h2 (by omega) K hK
  rw [decide_eq_false (by omega), nearest_up _ _ (by omega), show (-1074 : Int) + (K : Int) = -149 by omega] at h3
  exact ⟨_, h3, near_pos (by omega) (by omega), near_le _ _⟩
theorem pos_read {r : Nat} (h : 1 ≤ r) (h2 : r ≤ 2139095040) : (∃ n j, Ieee.single.read r = .number false n j ∧ n ≠ 0) ∨ r = 2139095040 := by
  by_cases h1 : r = 2139095040
  · exact .inr h1
  · have hw : Ieee.single.word false r = r := rfl
    have := word_read false (R := r) (by omega)
    rw [hw] at this
    split at this
    · exact .inl ⟨_, _, this, by omega⟩
    · exact .inl ⟨_, _, this, by omega⟩
theorem quo_nng {a w : Nat} (ha : nng a) (h1 : 1 ≤ w) (h2 : w ≤ 2139095040) : fop .quo a w = none ∨ ∃ r, fop .quo a w = some r ∧ nng r := by
  show Ieee.single.div a w = none ∨ ∃ r, Ieee.single.div a w = some r ∧ nng r
  rcases ha with ⟨s, m, i, hr, hm⟩ | rfl
  · rcases pos_read h1 h2 with ⟨n, j, hw, hn⟩ | rfl
    · refine .inr ⟨_, single_div hr hw hn, nng_near ?_⟩
      rcases hm with rfl | rfl
      · left; rw [Nat.zero_mul, stk_zero]
      · right; rfl
    · right
      unfold Ieee.Format.div
      rw [hr, inf_read]
      refine ⟨Ieee.single.word (s ^^ false) 0, ?_, nng_word0 _⟩
      have e : (Ieee.Datum.number s m i).quotient (Ieee.single.fractionBits + 2) (.infinity false) = some (.number (s ^^ false) 0 0) := rfl
      rw [e]
      show some (Ieee.single.nearest (s ^^ false) 0 0) = _
      rw [near0]
  · rcases pos_read h1 h2 with ⟨n, j, hw, hn⟩ | rfl
    · right
      unfold Ieee.Format.div
      rw [hw, inf_read]
      exact ⟨2139095040, rfl, nng_nn (Nat.le_refl _)⟩
    · left
      unfold Ieee.Format.div
      rw [inf_read]; rfl
theorem mul_nng {a : Nat} {M : Int} (ha : nng a) (hM : 1 ≤ M) (hM2 : M ≤ 16777215) : ∃ r, fop .mul a (cvF M) = some r ∧ nng r := by
  obtain ⟨m', j, hr2, _, hn⟩ := cv_whole (n := M) (by omega)
  rw [decide_eq_false (by omega)] at hr2
  have hn0 := (hn (by omega)).1
  show ∃ r, Ieee.single.mul a (cvF M) = some r ∧ nng r
  unfold Ieee.Format.mul
  rw [hr2]
  rcases ha with ⟨s, m, i, hr, hm⟩ | rfl
  · rw [hr]
    refine ⟨Ieee.single.nearest (s ^^ false) (m * m') (i + j), rfl, nng_near ?_⟩
    rcases hm with rfl | rfl
    · left; rw [Nat.zero_mul]
    · right; rfl
  · rw [inf_read]
    refine ⟨2139095040, ?_, nng_nn (Nat.le_refl _)⟩
    have e : (Ieee.Datum.infinity false).product (.number false m' j) = some (.infinity (false ^^ false)) := by
      show (if m' = 0 then none else some (Ieee.Datum.infinity (false ^^ false))) = _
      rw [if_neg hn0]
    rw [e]; rfl
/-- how far v lies in the bins -/
def tB (lo hi : Nat) (M : Int) (v : Nat) : Nat := fo .mul (fo .quo (fo .sub v lo) (fo .sub hi lo)) (cvF M)
theorem fo_is {op : BinOp} {a b r : Nat} (h : fop op a b = some r) (hn : nan32 r = false) : fo op a b = r := by
  unfold fo; rw [h]; exact cl_num hn
theorem tB_nng {lo hi v : Nat} {M : Int} (hlo : numB lo = true) (hhi : numB hi = true) (hv : numB v = true) (h1 : fval lo < fval hi) (h2 : fval lo ≤ fval v) (hM : 1 ≤ M) (hM2 : M ≤ 16777215) : nan32 (tB lo hi M v) = true ∨ nng (tB lo hi M v) := by
  obtain ⟨a, ha, ha2⟩ := sub_nng hv hlo h2
  obtain ⟨w, hw, hw2, hw3⟩ := sub_pos hhi hlo h1
  unfold tB
  rw [fo_is ha (nng_num ha2), fo_is hw (nn_num hw3)]
  rcases quo_nng ha2 hw2 hw3 with hq | ⟨q, hq, hq2⟩
  · left
    have e1 : fo .quo a w = 2143289344 := by unfold fo; rw [hq]; decide
    rw [e1]
    have e2 : fop .mul 2143289344 (cvF M) = none := fop_nan (.inl (by decide))
    unfold fo
    rw [e2]; decide
  · right
    rw [fo_is hq (nng_num hq2)]
    obtain ⟨r, hr, hr2⟩ := mul_nng hq2 hM hM2
    rw [fo_is hr (nng_num hr2)]; exact hr2
end Go.Proofs.Ytapcgokcfmklbaa

namespace Go.Proofs.Ytapcgokcfmklbaa
open Go Go.RowKit

def sm (f : Nat → Nat) : Nat → Nat
  | 0 => 0
  | n + 1 => sm f n + f n
theorem sm_congr {f g : Nat → Nat} : ∀ {n : Nat}, (∀ k, k < n → f k = g k) → sm f n = sm g n
  | 0, _ => rfl
  | n + 1, h => by
    show sm f n + f n = sm g n + g n
    rw [sm_congr (n := n) (fun k hk => h k (by omega)), h n (by omega)]
theorem sm_add (f : Nat → Nat) (a : Nat) : ∀ b, sm f (a + b) = sm f a + sm (fun k => f (a + k)) b
  | 0 => rfl
  | b + 1 => by
    show sm f (a + b) + f (a + b) = sm f a + (sm (fun k => f (a + k)) b + f (a + b))
    rw [sm_add f a b]; omega
theorem sm_plus (f g : Nat → Nat) : ∀ n, sm (fun k => f k + g k) n = sm f n + sm g n
  | 0 => rfl
  | n + 1 => by
    show sm (fun k => f k + g k) n + (f n + g n) = sm f n + f n + (sm g n + g n)
    rw [sm_plus f g n]; omega
theorem sm_prod (F : Nat → Nat → Nat) {w : Nat} (hw : 1 ≤ w) : ∀ h, sm (fun k => F (k % w) (k / w)) (w * h) = sm (fun y => sm (fun x => F x y) w) h
  | 0 => rfl
  | h + 1 => by
    rw [Nat.mul_succ, sm_add, sm_prod F hw h]
    show _ = sm (fun y => sm (fun x => F x y) w) h + sm (fun x => F x h) w
    congr 1
    refine sm_congr fun k hk => ?_
    rw [Nat.mul_add_mod, Nat.mod_eq_of_lt hk, Nat.mul_add_div (by omega), Nat.div_eq_of_lt hk, Nat.add_zero]
/-- a sum over a list of tiles -/
def sumR (f : Rg → Nat) : List Rg → Nat
  | [] => 0
  | t :: l => f t + sumR f l
theorem sumR_append (f : Rg → Nat) : ∀ l m, sumR f (l ++ m) = sumR f l + sumR f m
  | [], m => by simp [sumR]
  | t :: l, m => by
    show f t + sumR f (l ++ m) = f t + sumR f l + sumR f m
    rw [sumR_append f l m]; omega
theorem sumR_take (f : Rg → Nat) {l : List Rg} {k : Nat} (h : k < l.length) : sumR f (l.take (k + 1)) = sumR f (l.take k) + f l[k] := by
  rw [List.take_succ_eq_append_getElem h, sumR_append]
  simp [sumR]
/-- what a tile has of G: columns and rows from its corner on -/
def inT (G : Nat → Nat → Nat) (X Y : Int) (t : Rg) : Nat := sm (fun yy => sm (fun xx => G ((t.1 - X).toNat + xx) ((t.2.1 - Y).toNat + yy)) t.2.2.1.toNat) t.2.2.2.toNat
theorem tb_cov {X : Int} {w s i : Nat} (h : 1 ≤ s) (hw : 1 ≤ w) (hi : i < cntI X w s) : tb X s i = X + cov X w s i ∧ 0 ≤ cov X w s i := by
  have h1 := (cntI_iff h).1 hi
  have h2 := px_eq (X := X) h
  refine ⟨?_, (cov_bd X w s i).1⟩
  unfold tb cov
  omega
theorem row_sum {G : Nat → Nat → Nat} {X Y : Int} {w h s j : Nat} (hs : 1 ≤ s) (hw : 1 ≤ w) (hh : 1 ≤ h) (hj : j < cntI Y h s) : ∀ i, i ≤ cntI X w s →
    sumR (inT G X Y) ((List.range i).map (tile X Y w h s · j)) = sm (fun yy => sm (fun x => G x ((cov Y h s j).toNat + yy)) (cov X w s i).toNat) (tw Y h s j).toNat
  | 0, _ => by
    rw [cov_zero]
    show 0 = sm (fun _ => 0) _
    have : ∀ n, sm (fun _ => 0) n = 0 := fun n => by induction n with
      | zero => rfl
      | succ n ih => show sm (fun _ => 0) n + 0 = 0; rw [ih]
    exact (this _).symm
  | i + 1, hi => by
    rw [List.range_succ, List.map_append, sumR_append, row_sum hs hw hh hj i (by omega)]
    have h1 := cov_succ (X := X) (w := w) hs (show i < cntI X w s by omega)
    have h2 := tw_pos (X := X) hs hw (show i < cntI X w s by omega)
    have h3 := tb_cov (X := X) hs hw (show i < cntI X w s by omega)
    have h4 := tb_cov (X := Y) hs hh hj
    have e : (cov X w s (i + 1)).toNat = (cov X w s i).toNat + (tw X w s i).toNat := by omega
    show _ + (inT G X Y (tile X Y w h s i j) + 0) = _
    rw [e, Nat.add_zero]
    unfold inT tile
    simp only
    rw [← sm_plus]
    refine sm_congr fun yy _ => ?_
    rw [sm_add, show (tb X s i - X).toNat = (cov X w s i).toNat by omega, show (tb Y s j - Y).toNat = (cov Y h s j).toNat by omega]
theorem rows_sum {G : Nat → Nat → Nat} {X Y : Int} {w h s : Nat} (hs : 1 ≤ s) (hw : 1 ≤ w) (hh : 1 ≤ h) : ∀ j, j ≤ cntI Y h s →
    sumR (inT G X Y) (rowsL X Y w h s j) = sm (fun y => sm (fun x => G x y) w) (cov Y h s j).toNat
  | 0, _ => by rw [cov_zero]; rfl
  | j + 1, hj => by
    show sumR (inT G X Y) (rowsL X Y w h s j ++ (List.range (cntI X w s)).map (tile X Y w h s · j)) = _
    have h1 := cov_succ (X := Y) (w := h) hs (show j < cntI Y h s by omega)
    have h2 := tw_pos (X := Y) hs hh (show j < cntI Y h s by omega)
    have h3 := cov_bd Y h s j
    have e : (cov Y h s (j + 1)).toNat = (cov Y h s j).toNat + (tw Y h s j).toNat := by omega
    rw [sumR_append, rows_sum hs hw hh j (by omega), row_sum hs hw hh (by omega) _ (Nat.le_refl _), cov_end (X := X) (w := w) (i := cntI X w s) hs (by omega), e, sm_add, Int.toNat_natCast]
/-- the tiles, together -/
theorem tiles_sum {G : Nat → Nat → Nat} {X Y : Int} {w h s : Nat} (hs : 1 ≤ s) (hw : 1 ≤ w) (hh : 1 ≤ h) : sumR (inT G X Y) (rowsL X Y w h s (cntI Y h s)) = sm (fun k => G (k % w) (k / w)) (w * h) := by
  rw [rows_sum hs hw hh _ (Nat.le_refl _), cov_end (X := Y) (w := h) (i := cntI Y h s) hs (by omega), Int.toNat_natCast, sm_prod G hw]
end Go.Proofs.Ytapcgokcfmklbaa

namespace Go.Proofs.Ytapcgokcfmklbaa
open Go Go.RowKit

theorem cut_down (n k : Nat) : Ieee.Toward.down.cut false n k = n / 2 ^ k := by
  rw [← cut_zero false n k]; rfl
theorem cut_down0 (s : Bool) (k : Nat) : Ieee.Toward.down.cut s 0 k = 0 := by
  unfold Ieee.Toward.cut
  simp
def flD (d : Nat) : Nat := FloatKind.f64.encode ((FloatKind.f64.decode d).integral .down)
theorem fl_form (name : String) (x : Nat) : ∃ N : Bool → Nat → Sem Value, Extern.MathFloor.toIntegral name .down #[.float .f64 x] =
    (match FloatKind.f64.decode x with
    | .nan s t => N s t
    | d => pure (.float .f64 (FloatKind.f64.encode (d.integral .down)))) := ⟨_, rfl⟩
theorem fl_run {x : Nat} (h : ¬ isNanD (Ieee.double.read x)) (name : String) (P : Program) (w : World) : (Extern.MathFloor.toIntegral name .down #[.float .f64 x]).run P w = .ok (.float .f64 (flD x)) w := by
  obtain ⟨N, hN⟩ := fl_form name x
  rw [hN]
  unfold flD
  cases hd : Ieee.double.read x with
  | number s m i =>
    have e : FloatKind.f64.decode x = .number s m i := hd
    rw [e]
    rfl
  | infinity s =>
    have e : FloatKind.f64.decode x = .infinity s := hd
    rw [e]
    rfl
  | nan s f => exact absurd ⟨s, f, hd⟩ h
theorem fval_cv {n : Int} (h : n.natAbs ≤ 16777215) {J : Nat} (hJ : J = 149) : fval (cvF n) = n * 2 ^ J := by
  obtain ⟨⟨s, m, i, hr, hi, hval⟩, _⟩ := cv_val h
  obtain ⟨L, hL⟩ : ∃ L : Nat, L = 1074 := ⟨_, rfl⟩
  obtain ⟨K, hK⟩ : ∃ K : Nat, K = 925 := ⟨_, rfl⟩
  have e1 := val_of_fval hr hK
  have e2 := hval L hL
  have e3 : (2 : Int) ^ L = 2 ^ J * 2 ^ K := by rw [← Int.pow_add]; congr 1; omega
  rw [e3, ← Int.mul_assoc, e1] at e2
  exact Int.eq_of_mul_eq_mul_right (p2L K) e2
theorem lss_fval {a b : Nat} (ha : numB a = true) (hb : numB b = true) : fcmpB .lss a b = decide (fval a < fval b) := by
  unfold fcmpB
  rw [order_fval ha hb]
  rcases Int.lt_trichotomy (fval a) (fval b) with h | h | h
  · rw [Int.compare_eq_lt.2 h, decide_eq_true h]; rfl
  · rw [Int.compare_eq_eq.2 h, decide_eq_false (by omega)]; rfl
  · rw [Int.compare_eq_gt.2 h, decide_eq_false (by omega)]; rfl
theorem cv_numB {n : Int} (h : n.natAbs ≤ 16777215) : numB (cvF n) = true := by
  obtain ⟨_, m, i, hr⟩ := cv_val h
  unfold numB; rw [hr]
/-- a place before the last bin's end -/
theorem place_num {t : Nat} {M : Int} (ht : nng t) (hM2 : M ≤ 1024) (hM : 1 ≤ M) (h : fcmpB .lss t (cvF M) = true) : ∃ s m i, Ieee.single.read t = .number s m i ∧ (m = 0 ∨ s = false) ∧ (m = 0 ∨ i + (m.log2 : Int) < 11) := by
  have hMb := cv_numB (n := M) (by omega)
  rcases ht with ⟨s, m, i, hr, hm⟩ | rfl
  · refine ⟨s, m, i, hr, hm, ?_⟩
    by_cases h0 : m = 0
    · exact .inl h0
    · right
      have hs : s = false := hm.resolve_left h0
      subst hs
      have htb : numB t = true := by unfold numB; rw [hr]
      rw [lss_fval htb hMb] at h
      have h1 := of_decide_eq_true h
      obtain ⟨J, hJ⟩ : ∃ J : Nat, J = 149 := ⟨_, rfl⟩
      rw [fval_cv (by omega) hJ] at h1
      have hb := num_bd hr
      have e1 : fval t = ((m * 2 ^ (i + 149).toNat : Nat) : Int) := by
        unfold fval; rw [hr]
        show Ieee.signed false m (i + 149).toNat = _
        unfold Ieee.signed
        rw [if_neg (by decide), Nat.shiftLeft_eq]
      rw [e1] at h1
      have e2 : M * 2 ^ J ≤ 1024 * 2 ^ J := Int.mul_le_mul_of_nonneg_right hM2 (Int.le_of_lt (Int.pow_pos (by decide)))
      have e3 : ((1024 * 2 ^ J : Nat) : Int) = 1024 * 2 ^ J := by rw [Int.natCast_mul, Int.natCast_pow]; rfl
      have e4 : m * 2 ^ (i + 149).toNat ≤ 2 ^ (10 + J) := by
        have c : (1024 : Nat) = 2 ^ 10 := by decide
        rw [Nat.pow_add, ← c]; omega
      have h3 := log_le (Nat.mul_ne_zero h0 (Nat.ne_of_gt (Nat.two_pow_pos _))) e4
      rw [log2_up h0] at h3
      omega
  · exfalso
    unfold fcmpB Ieee.Format.order at h
    rw [inf_read] at h
    obtain ⟨s, m, i, hr⟩ := num_read hMb
    rw [hr] at h
    exact Bool.noConfusion (show false = true from h)
theorem int_nn {v : Nat} {s : Bool} {m : Nat} {i : Int} (hd : Ieee.single.read v = .number s m i) (hm : m = 0 ∨ s = false) (hb : m = 0 ∨ i + (m.log2 : Int) < 24) : ∃ n, floatToIntVal .f32 v .i64 = some n ∧ 0 ≤ n := by
  have hq : m * 2 ^ i.toNat / 2 ^ (-i).toNat ≤ 16777215 := by
    by_cases h0 : m = 0
    · subst h0; simp
    · have hb := hb.resolve_left h0
      refine Nat.le_of_lt_succ ((Nat.div_lt_iff_lt_mul (Nat.two_pow_pos _)).2 ?_)
      have h1 : m < 2 ^ (m.log2 + 1) := Nat.lt_log2_self
      have h2 : m * 2 ^ i.toNat < 2 ^ (m.log2 + 1) * 2 ^ i.toNat := Nat.mul_lt_mul_of_pos_right h1 (Nat.two_pow_pos _)
      rw [← Nat.pow_add] at h2
      have c : (16777215 + 1 : Nat) = 2 ^ 24 := by decide
      rw [show Nat.succ 16777215 = 2 ^ 24 from c, ← Nat.pow_add]
      exact Nat.lt_of_lt_of_le h2 (Nat.pow_le_pow_right (by decide) (by omega))
  have hI : (FloatKind.f32.decode v).toInt .zero = some (Ieee.signed s (m * 2 ^ i.toNat / 2 ^ (-i).toNat) 0) := by
    have e : FloatKind.f32.decode v = .number s m i := hd
    rw [e]
    unfold Ieee.Datum.toInt Ieee.Datum.integral
    simp only [cut_zero, Nat.shiftLeft_eq]
  have hv := val_abs s (m * 2 ^ i.toNat / 2 ^ (-i).toNat) 0
  rw [Nat.pow_zero, Nat.mul_one] at hv
  refine ⟨Ieee.signed s (m * 2 ^ i.toNat / 2 ^ (-i).toNat) 0, ?_, ?_⟩
  · unfold floatToIntVal
    rw [hI]
    have q1 : IntKind.i64.min = -9223372036854775808 := by decide
    have q2 : IntKind.i64.max = 9223372036854775807 := by decide
    simp only [q1, q2]
    exact if_pos ⟨by omega, by omega⟩
  · rcases hm with h0 | h0
    · subst h0; unfold Ieee.signed; simp
    · subst h0
      unfold Ieee.signed
      rw [if_neg (by decide)]
      exact Int.natCast_nonneg _
theorem floor_ok {t : Nat} {M : Int} (ht : nng t) (hM2 : M ≤ 1024) (hM : 1 ≤ M) (h : fcmpB .lss t (cvF M) = true) :
    ∃ d r n, floatToFloatBits .f32 t .f64 = some d ∧ ¬ isNanD (Ieee.double.read d) ∧ floatToFloatBits .f64 (flD d) .f32 = some r ∧ floatToIntVal .f32 r .i64 = some n ∧ 0 ≤ n := by
  obtain ⟨s, m, i, hr, hm, hb⟩ := place_num ht hM2 hM h
  have hbd := num_bd hr
  have hconv := wide_conv hr
  -- the floor as a double: a whole number Q, not below zero
  have key : ∃ s2 Q, Q ≤ 4096 ∧ (Q = 0 ∨ s2 = false) ∧ ¬ isNanD (Ieee.double.read (Ieee.double.nearest s m i)) ∧ flD (Ieee.double.nearest s m i) = Ieee.double.nearest s2 Q 0 := by
    rcases wide_read (s := s) hbd.1 (by omega) hbd.2.1 with ⟨h0, h1⟩ | ⟨h0, h1⟩
    · refine ⟨s, 0, by omega, .inl rfl, (by rw [h1]; rintro ⟨_, _, h⟩; cases h), ?_⟩
      unfold flD
      have e : FloatKind.f64.decode (Ieee.double.nearest s m i) = .number s 0 (-1074) := h1
      rw [e]
      show Ieee.double.nearest s (Ieee.Toward.down.cut s (0 <<< (-1074 : Int).toNat) (- (-1074 : Int)).toNat) 0 = _
      rw [Nat.shiftLeft_eq, Nat.zero_mul, cut_down0]
    · have hs : s = false := hm.resolve_left h0
      subst hs
      have hl := single_log h0 hbd.1
      obtain ⟨k, hk⟩ : ∃ k, 52 - m.log2 = k := ⟨_, rfl⟩
      rw [hk] at h1
      have hlog : i + (m.log2 : Int) < 11 := hb.resolve_left h0
      refine ⟨false, m * 2 ^ k * 2 ^ (i - (k : Int)).toNat / 2 ^ (-(i - (k : Int))).toNat, ?_, .inr rfl, (by rw [h1]; rintro ⟨_, _, h⟩; cases h), ?_⟩
      · have e0 : (i - (k : Int)).toNat = 0 := by omega
        rw [e0, Nat.pow_zero, Nat.mul_one]
        refine Nat.le_of_lt_succ ((Nat.div_lt_iff_lt_mul (Nat.two_pow_pos _)).2 ?_)
        have h2 : m < 2 ^ (m.log2 + 1) := Nat.lt_log2_self
        have h3 : m * 2 ^ k < 2 ^ (m.log2 + 1) * 2 ^ k := Nat.mul_lt_mul_of_pos_right h2 (Nat.two_pow_pos _)
        rw [← Nat.pow_add] at h3
        have h4 : 2 ^ (m.log2 + 1 + k) ≤ 2 ^ 12 * 2 ^ (-(i - (k : Int))).toNat := by
          rw [← Nat.pow_add]; exact Nat.pow_le_pow_right (by decide) (by omega)
        have c : (2 : Nat) ^ 12 = 4096 := by decide
        rw [c] at h4
        have h5 := Nat.two_pow_pos (-(i - (k : Int))).toNat
        have h6 : 4096 * 2 ^ (-(i - (k : Int))).toNat ≤ Nat.succ 4096 * 2 ^ (-(i - (k : Int))).toNat := Nat.mul_le_mul_right _ (by omega)
        omega
      · unfold flD
        have e : FloatKind.f64.decode (Ieee.double.nearest false m i) = .number false (m * 2 ^ k) (i - (k : Int)) := h1
        rw [e]
        show Ieee.double.nearest false (Ieee.Toward.down.cut false ((m * 2 ^ k) <<< (i - (k : Int)).toNat) (-(i - (k : Int))).toNat) 0 = _
        rw [Nat.shiftLeft_eq, cut_down]
  obtain ⟨s2, Q, hQ, hQs, hn, hfl⟩ := key
  by_cases hQ0 : Q = 0
  · subst hQ0
    have e0 : Ieee.double.nearest s2 0 0 = Ieee.double.word s2 0 := by unfold Ieee.Format.nearest; rw [if_pos rfl]
    have hz := zero_back s2 (r := Ieee.single.word s2 0) rfl
    obtain ⟨n, h1, h2⟩ := int_nn (word0_read s2) (.inl rfl) (.inl rfl)
    exact ⟨_, _, n, hconv, hn, by rw [hfl, e0]; exact hz, h1, h2⟩
  · have hs2 : s2 = false := hQs.resolve_left hQ0
    subst hs2
    have hlq : Q.log2 ≤ 12 := log_le hQ0 (by have : (2 : Nat) ^ 12 = 4096 := by decide
                                             omega)
    have h1 := read_exact false (m := Q) (p := 0) hQ0 (by omega) (by omega) (by omega)
    have e1 : cvF (Q : Int) = Ieee.single.nearest false Q 0 := by rw [cv_near, decide_eq_false (by omega), Int.natAbs_natCast]
    obtain ⟨_, m3, i3, h4⟩ := cv_val (n := (Q : Int)) (by omega)
    have h5 := f64_f32 (r := cvF (Q : Int)) h1 (by rw [nearest_up _ _ hQ0, e1]; congr 1; omega) (by rw [h4]; rfl)
    rw [decide_eq_false (by omega)] at h4
    obtain ⟨s5, m5, i5, h7, h8⟩ := cv_fb (n := (Q : Int)) (by omega)
    rw [h4] at h7
    injection h7 with a1 a2 a3
    subst a1 a2 a3
    obtain ⟨n, h9, h10⟩ := int_nn h4 (.inr rfl) h8
    exact ⟨_, _, n, hconv, hn, by rw [hfl]; exact h5, h9, h10⟩
/-! the number of a bin -/
/-- the floor of a place, as an integer -/
def flI (t : Nat) : Int := (((floatToFloatBits .f32 t .f64).bind fun d => (floatToFloatBits .f64 (flD d) .f32).bind fun r => floatToIntVal .f32 r .i64).getD 0)
theorem flI_ok {t : Nat} {M : Int} (ht : nng t) (hM2 : M ≤ 1024) (hM : 1 ≤ M) (h : fcmpB .lss t (cvF M) = true) :
    ∃ d r, floatToFloatBits .f32 t .f64 = some d ∧ ¬ isNanD (Ieee.double.read d) ∧ floatToFloatBits .f64 (flD d) .f32 = some r ∧ floatToIntVal .f32 r .i64 = some (flI t) ∧ 0 ≤ flI t := by
  obtain ⟨d, r, n, h1, h2, h3, h4, h5⟩ := floor_ok ht hM2 hM h
  have e : flI t = n := by unfold flI; rw [h1, Option.bind_some, h3, Option.bind_some, h4]; rfl
  rw [e]
  exact ⟨d, r, h1, h2, h3, h4, h5⟩
def binV (lo hi : Nat) (M : Int) (v : Nat) : Int :=
  if nan32 v = true then -2 else if fcmpB .lss v lo = true then -1 else if fcmpB .geq v hi = true then M
  else if fcmpB .lss (tB lo hi M v) (cvF M) = true then min (flI (tB lo hi M v)) (M - 1) else M - 1
/-- right bins -/
def okB (lo hi : Nat) (M : Int) : Prop := numB lo = true ∧ numB hi = true ∧ fcmpB .lss lo hi = true ∧ 1 ≤ M ∧ M ≤ 1024
theorem tB_ok {lo hi v : Nat} {M : Int} (hb : okB lo hi M) (h0 : nan32 v = false) (h1 : fcmpB .lss v lo = false) (h2 : fcmpB .geq v hi = false) (h3 : fcmpB .lss (tB lo hi M v) (cvF M) = true) : nng (tB lo hi M v) := by
  obtain ⟨q1, q2, q3, q4, q5⟩ := hb
  have hv : numB v = true := by
    rcases read_num h0 with ⟨s, m, i, hd⟩ | ⟨s, hd⟩
    · unfold numB; rw [hd]
    · exfalso
      obtain ⟨s1, m1, i1, r1⟩ := num_read q1
      obtain ⟨s2, m2, i2, r2⟩ := num_read q2
      unfold fcmpB Ieee.Format.order at h1 h2
      rw [hd, r1] at h1
      rw [hd, r2] at h2
      cases s
      · exact Bool.noConfusion (show true = false from h2)
      · exact Bool.noConfusion (show true = false from h1)
  rw [lss_fval hv q1] at h1
  rw [lss_fval q1 q2] at q3
  rcases tB_nng q1 q2 hv (of_decide_eq_true q3) (Int.not_lt.1 (of_decide_eq_false h1)) q4 (by omega) with h | h
  · exfalso
    unfold fcmpB at h3
    rw [order_nan (.inl h)] at h3
    exact Bool.noConfusion (show false = true from h3)
  · exact h
theorem binV_rng {lo hi v : Nat} {M : Int} (hb : okB lo hi M) : binV lo hi M v = -2 ∨ binV lo hi M v = -1 ∨ binV lo hi M v = M ∨ (0 ≤ binV lo hi M v ∧ binV lo hi M v < M) := by
  have hM := hb.2.2.2.1
  have hM2 := hb.2.2.2.2
  unfold binV
  split
  · exact .inl rfl
  · rename_i c0
    split
    · exact .inr (.inl rfl)
    · rename_i c1
      split
      · exact .inr (.inr (.inl rfl))
      · rename_i c2
        split
        · rename_i c3
          have h := tB_ok hb (by simpa using c0) (by simpa using c1) (by simpa using c2) c3
          obtain ⟨_, _, _, _, _, _, h5⟩ := flI_ok h hM2 hM c3
          omega
        · omega
theorem binV_1 {lo hi v : Nat} {M : Int} (h : nan32 v = true) : -2 = binV lo hi M v := by unfold binV; rw [if_pos h]
theorem binV_2 {lo hi v : Nat} {M : Int} (h : nan32 v = false) (h1 : fcmpB .lss v lo = true) : -1 = binV lo hi M v := by unfold binV; rw [if_neg (by rw [h]; decide), if_pos h1]
theorem binV_3 {lo hi v : Nat} {M : Int} (h : nan32 v = false) (h1 : fcmpB .lss v lo = false) (h2 : fcmpB .geq v hi = true) : M = binV lo hi M v := by unfold binV; rw [if_neg (by rw [h]; decide), if_neg (by rw [h1]; decide), if_pos h2]
theorem binV_4 {lo hi v : Nat} {M : Int} (h : nan32 v = false) (h1 : fcmpB .lss v lo = false) (h2 : fcmpB .geq v hi = false) (h3 : fcmpB .lss (tB lo hi M v) (cvF M) = false) : M - 1 = binV lo hi M v := by unfold binV; rw [if_neg (by rw [h]; decide), if_neg (by rw [h1]; decide), if_neg (by rw [h2]; decide), if_neg (by rw [h3]; decide)]
theorem binV_5 {lo hi v : Nat} {M : Int} (h : nan32 v = false) (h1 : fcmpB .lss v lo = false) (h2 : fcmpB .geq v hi = false) (h3 : fcmpB .lss (tB lo hi M v) (cvF M) = true) : min (flI (tB lo hi M v)) (M - 1) = binV lo hi M v := by unfold binV; rw [if_neg (by rw [h]; decide), if_neg (by rw [h1]; decide), if_neg (by rw [h2]; decide), if_pos h3]
/-! how many values each bin has -/
def ind (b : Bool) : Nat := if b then 1 else 0
/-- how many of the first N values lie in bin t -/
def hB (B : Nat → Int) (N : Nat) (t : Int) : Nat := sm (fun k => ind (decide (B k = t))) N
theorem hB_le (B : Nat → Int) (t : Int) : ∀ N, hB B N t ≤ N
  | 0 => Nat.le_refl _
  | N + 1 => by
    show hB B N t + ind _ ≤ N + 1
    have := hB_le B t N
    unfold ind
    split <;> omega
theorem hB_T {B : Nat → Int} {N : Nat} {t : Int} (h : B N = t) : iv ((hB B N t : Nat) + 1 : Int) = iv ((hB B (N + 1) t : Nat) : Int) := by
  show _ = iv (((hB B N t + ind (decide (B N = t)) : Nat)) : Int)
  rw [decide_eq_true h]; rfl
theorem hB_F {B : Nat → Int} {N : Nat} {t : Int} (h : B N ≠ t) : hB B (N + 1) t = hB B N t := by
  show hB B N t + ind (decide (B N = t)) = _
  rw [decide_eq_false h]; rfl
/-- the row of counts -/
def rowB (B : Nat → Int) (N M : Nat) : List Value := (List.range M).map fun j : Nat => iv ((hB B N (j : Int) : Nat) : Int)
theorem rowB_len (B : Nat → Int) (N M : Nat) : (rowB B N M).length = M := by simp [rowB]
theorem rowB_at {B : Nat → Int} {N M j : Nat} (h : j < M) : (rowB B N M)[j]? = some (iv ((hB B N (j : Int) : Nat) : Int)) := by
  unfold rowB; rw [List.getElem?_map, List.getElem?_range h]; rfl
theorem rowB_get {B : Nat → Int} {N M i : Nat} (h : i < (rowB B N M).length) : (rowB B N M)[i] = iv ((hB B N (i : Int) : Nat) : Int) := by
  have h1 := rowB_at (B := B) (N := N) (show i < M by rwa [rowB_len] at h)
  rw [List.getElem?_eq_getElem h] at h1
  injection h1
theorem rowB_zero (B : Nat → Int) (M : Nat) : rowB B 0 M = List.replicate M (iv 0) := by
  apply List.ext_getElem
  · simp [rowB]
  · intro i h1 h2; rw [rowB_get]; simp [hB, sm]
theorem rowB_set {B : Nat → Int} {N M j : Nat} (hj : j < M) (h : B N = (j : Int)) : (rowB B N M).set j (iv ((hB B N (j : Int) : Nat) + 1 : Int)) = rowB B (N + 1) M := by
  apply List.ext_getElem
  · simp [rowB]
  · intro i h1 h2
    rw [List.getElem_set]
    by_cases e : j = i
    · subst e
      rw [if_pos rfl]
      rw [rowB_get]; exact hB_T h
    · rw [if_neg e, rowB_get, rowB_get, hB_F (by omega)]
theorem rowB_same {B : Nat → Int} {N M : Nat} (h : ∀ j : Nat, j < M → B N ≠ (j : Int)) : rowB B N M = rowB B (N + 1) M := by
  apply List.ext_getElem
  · simp [rowB]
  · intro i h1 h2
    rw [rowB_get, rowB_get, hB_F (h i (by rwa [rowB_len] at h1))]
end Go.Proofs.Ytapcgokcfmklbaa

namespace Go.Proofs.Ytapcgokcfmklbaa
open Go Go.RowKit

/-- what is wrong with bins -/
def bnE (lo hi : Nat) (M : Int) : Int := if numsB [lo, hi] = false then 2 else if fcmpB .lss lo hi = false then 8 else if M < 1 ∨ 1024 < M then 3 else 0
theorem bnE_1 {lo hi : Nat} {M : Int} (h : numsB [lo, hi] = false) : 2 = bnE lo hi M := by unfold bnE; rw [if_pos h]
theorem bnE_2 {lo hi : Nat} {M : Int} (h : numsB [lo, hi] = true) (h1 : fcmpB .lss lo hi = false) : 8 = bnE lo hi M := by unfold bnE; rw [if_neg (by rw [h]; decide), if_pos h1]
theorem bnE_3 {lo hi : Nat} {M : Int} (h : numsB [lo, hi] = true) (h1 : fcmpB .lss lo hi = true) (h2 : M < 1 ∨ 1024 < M) : 3 = bnE lo hi M := by unfold bnE; rw [if_neg (by rw [h]; decide), if_neg (by rw [h1]; decide), if_pos h2]
theorem bnE_0 {lo hi : Nat} {M : Int} (h : numsB [lo, hi] = true) (h1 : fcmpB .lss lo hi = true) (h2 : ¬ (M < 1 ∨ 1024 < M)) : 0 = bnE lo hi M := by unfold bnE; rw [if_neg (by rw [h]; decide), if_neg (by rw [h1]; decide), if_neg h2]
theorem bnE_ok {lo hi : Nat} {M : Int} (h : bnE lo hi M = 0) : okB lo hi M := by
  unfold bnE at h
  split at h
  · omega
  · rename_i h1
    split at h
    · omega
    · rename_i h2
      split at h
      · omega
      · rename_i h3
        have h4 : numsB [lo, hi] = true := by simpa using h1
        unfold numsB at h4
        simp only [List.all_cons, List.all_nil, Bool.and_true, Bool.and_eq_true] at h4
        exact ⟨h4.1, h4.2, by simpa using h2, by omega, by omega⟩
theorem bnE_is {lo hi : Nat} {M : Int} (h : okB lo hi M) : bnE lo hi M = 0 := by
  obtain ⟨q1, q2, q3, q4, q5⟩ := h
  refine (bnE_0 ?_ q3 (by omega)).symm
  unfold numsB
  simp [q1, q2]
theorem tB_is {lo hi v a b c d : Nat} {M : Int} (ha : FR (fop .sub v lo) a) (hb : FR (fop .sub hi lo) b) (hc : FR (fop .quo a b) c) (hd : FR (fop .mul c (cvF M)) d) : cl d = tB lo hi M v := by
  exact hd.cl' ((hc.cl' (ha.cl.trans (cl_fo _ _ _).symm) (hb.cl.trans (cl_fo _ _ _).symm)).trans (cl_fo _ _ _).symm) rfl
theorem tB_cmp {lo hi v d : Nat} {M : Int} (h : cl d = tB lo hi M v) {b : Bool} (h1 : fcmpB .lss d (cvF M) = b) : fcmpB .lss (tB lo hi M v) (cvF M) = b := by
  rw [← h1]
  refine fcmpB_congr ?_ rfl
  rw [← h, cl_cl]
theorem tB_re {lo hi v d : Nat} {M : Int} (h : cl d = tB lo hi M v) (h1 : nng (tB lo hi M v)) : d = tB lo hi M v := by
  have h2 : nan32 d = false := by rw [← nan_cl, h]; exact nng_num h1
  rw [← h, cl_num h2]
/-- luma's weights -/
def wtsV (k : Nat) : Nat := if k = 0 then 1046066128 else if k = 1 then 1060575065 else 1033100696
/-- the k-th value of a channel -/
def chanV (xs : List Nat) (ch : Int) (k : Nat) : Nat := if ch = 4 then lumaV wtsV (fun c => xs.getD (4 * k + c) 0) else cl (xs.getD (4 * k + ch.toNat) 0)
theorem chanV_pl {xs : List Nat} {ch : Int} (h0 : 0 ≤ ch) (h3 : ch ≤ 3) (m : Nat) : planeV xs ch m = (List.range m).map (chanV xs ch) := by
  unfold planeV
  refine List.map_congr_left fun k _ => ?_
  unfold planeF chanV
  rw [if_neg (by omega)]
  congr 2; omega
theorem chanV_lu {xs : List Nat} {k : Nat} : lumaV wtsV (fun c => xs.getD (4 * k + c) 0) = chanV xs 4 k := (if_pos rfl).symm
end Go.Proofs.Ytapcgokcfmklbaa

namespace Go.Proofs.Ytapcgokcfmklbaa
open Go Go.Proofs Go.RowKit

theorem ok30 : callOK Try.prog 30 = true := by kernel_rfl
set_option maxRecDepth 100000 in
theorem landedT (W : World) : Fn_ Try.prog 30 #[] W (fun v H => v = .bool true ∧ H = []) := by
  refine Fn_.intro Try.func30 rfl rfl (by rfl) ?_
  refine CS.seq ?_
  refine CS.region ?_
  refine RS.q rfl (QO.assign) ?_
  refine RS.nil ?_
  refine thenC_n ?_
  refine CS.seq ?_
  refine CS.region ?_
  refine RS.call rfl (by rfl) ok43 (by rfl) (fun w ho => bits _ _) ?_
  rintro _ _ ⟨rfl, rfl⟩
  refine RS.q rfl (QO.eql (by rfl) (by rfl)) ?_
  refine RS.q rfl (QO.assign) ?_
  refine RS.nil ?_
  refine thenC_n ?_
  refine CS.ret ?_
  refine retQ.mk (H' := []) (.inr rfl) (RVs.tmp (by rfl) RVs.nil) (List.nil_sublist _) ?_
  exact ⟨congrArg Value.bool (by decide), rfl⟩

end Go.Proofs.Ytapcgokcfmklbaa
