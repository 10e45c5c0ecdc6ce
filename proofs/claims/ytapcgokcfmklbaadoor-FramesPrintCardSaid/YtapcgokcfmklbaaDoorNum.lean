/-
  Floats of 32 bits: which are numbers; a number less itself; the weighted sum of a pixel. No program in sight. Conditions: none.
-/
import Derived.Test.YtapcgokcfmklbaaDoorPix
namespace Go.Proofs.YtapcgokcfmklbaaDoor
open Go Go.RowKit

theorem num_bd {b : Nat} {s : Bool} {m : Nat} {p : Int} (h : Ieee.single.read b = .number s m p) : m ≤ 16777215 ∧ p ≤ 104 ∧ -149 ≤ p := by
  have e2 : Ieee.single.binade = 8388608 := rfl
  have e3 : Ieee.single.infRung = 2139095040 := rfl
  have e4 : Ieee.single.leastPlace = -149 := rfl
  unfold Ieee.Format.read at h
  simp only [e2, e3, e4] at h
  split at h
  · cases h; omega
  · split at h
    · cases h; omega
    · split at h <;> cases h
/-- is it a number: no NaN and no infinity -/
def numB (b : Nat) : Bool := match Ieee.single.read b with
  | .number .. => true
  | _ => false
theorem numB_nan {b : Nat} (h : nan32 b = true) : numB b = false := by
  obtain ⟨s, f, e⟩ := read_nan h
  unfold numB; rw [e]
theorem nan_of_num {b : Nat} (h : numB b = true) : nan32 b = false := by
  cases e : nan32 b
  · rfl
  · rw [numB_nan e] at h; cases h
theorem feq_self (b : Nat) : fcmpB .eql b b = !nan32 b := by
  unfold fcmpB
  cases h : nan32 b
  · rw [order_self h]; rfl
  · rw [order_nan (.inl h)]; rfl
theorem read_max : Ieee.single.read 2139095039 = .number false 16777215 104 := by decide +kernel
theorem read_min : Ieee.single.read 4286578687 = .number true 16777215 104 := by decide +kernel
theorem signed_le {s : Bool} {m k : Nat} {M : Nat} (h : m ≤ M) : Ieee.signed s m 0 ≤ Ieee.signed false M k ∧ Ieee.signed true M k ≤ Ieee.signed s m 0 := by
  have h1 : m ≤ M <<< k := Nat.le_trans h (by rw [Nat.shiftLeft_eq]; exact Nat.le_mul_of_pos_right _ (Nat.two_pow_pos k))
  unfold Ieee.signed
  simp only [Nat.shiftLeft_zero]
  generalize M <<< k = z at *
  cases s <;> simp <;> omega
theorem inf_num {b : Nat} (h : numB b = true) : fcmpB .gtr b 2139095039 = false ∧ fcmpB .lss b 4286578687 = false := by
  unfold numB at h
  split at h
  · rename_i s m p e
    have hb := num_bd e
    unfold fcmpB Ieee.Format.order
    rw [e, read_max, read_min]
    simp only [Ieee.Datum.order]
    have e1 : min p 104 = p := by omega
    rw [e1]
    have e2 : (p - p).toNat = 0 := by omega
    rw [e2]
    have h1 := signed_le (s := s) (k := (104 - p).toNat) hb.1
    refine ⟨?_, ?_⟩
    · have : compare (Ieee.signed s m 0) (Ieee.signed false 16777215 (104 - p).toNat) ≠ .gt := fun hc => by rw [Int.compare_eq_gt] at hc; omega
      cases hc : compare (Ieee.signed s m 0) (Ieee.signed false 16777215 (104 - p).toNat) <;> simp_all
    · have : compare (Ieee.signed s m 0) (Ieee.signed true 16777215 (104 - p).toNat) ≠ .lt := fun hc => by rw [Int.compare_eq_lt] at hc; omega
      cases hc : compare (Ieee.signed s m 0) (Ieee.signed true 16777215 (104 - p).toNat) <;> simp_all
  · cases h
theorem inf_inf {b : Nat} (h : numB b = false) (hn : nan32 b = false) : (fcmpB .gtr b 2139095039 || fcmpB .lss b 4286578687) = true := by
  rcases read_num hn with ⟨s, m, p, e⟩ | ⟨s, e⟩
  · unfold numB at h; rw [e] at h; cases h
  · unfold fcmpB Ieee.Format.order
    rw [e, read_max, read_min]
    cases s <;> rfl
/-- v == v, and not above the greatest and not below the least -/
theorem isnum_1 (b : Nat) : (fcmpB .eql b b && !(fcmpB .gtr b 2139095039 || fcmpB .lss b 4286578687)) = numB b := by
  rw [feq_self]
  cases hn : nan32 b
  · cases h : numB b
    · rw [inf_inf h hn]; rfl
    · rw [(inf_num h).1, (inf_num h).2]; rfl
  · rw [numB_nan hn]; rfl
theorem sub_self {b : Nat} (h : numB b = true) : fop .sub b b = some 0 := by
  unfold numB at h
  split at h
  · rename_i s m p e
    show Ieee.single.sub b b = _
    unfold Ieee.Format.sub
    rw [e]
    have e2 : (p - min p p).toNat = 0 := by omega
    have e3 : Ieee.signed s m 0 + Ieee.signed (!s) m 0 = 0 := by unfold Ieee.signed; cases s <;> simp <;> omega
    simp only [Ieee.Datum.opposite, Ieee.Datum.sum, e2, e3, if_true, Option.map_some, Int.natAbs_zero]
    have e4 : (s && !s) = false := by cases s <;> rfl
    rw [e4]
    simp only [Ieee.Format.write, Ieee.Format.nearest, if_true]
    rfl
  · cases h
theorem sub_not {b : Nat} (h : numB b = false) : fop .sub b b = none := by
  cases hn : nan32 b
  · rcases read_num hn with ⟨s, m, p, e⟩ | ⟨s, e⟩
    · unfold numB at h; rw [e] at h; cases h
    · show Ieee.single.sub b b = _
      unfold Ieee.Format.sub
      rw [e]
      cases s <;> rfl
  · exact fop_nan (.inl hn)
theorem zero_zero : fcmpB .eql 0 0 = true := by decide +kernel
/-- v - v == 0 -/
theorem isnum_2 {b r : Nat} (h : FR (fop .sub b b) r) : fcmpB .eql r 0 = numB b := by
  cases hb : numB b
  · rw [sub_not hb] at h
    have h : nan32 r = true := h
    unfold fcmpB
    rw [order_nan (.inl h)]; rfl
  · rw [sub_self hb] at h
    have h : r = 0 := h
    rw [h]; exact zero_zero
/-- a weighted sum -/
def lumaV (w q : Nat → Nat) : Nat := fo .add (fo .add (fo .mul (w 0) (q 0)) (fo .mul (w 1) (q 1))) (fo .mul (w 2) (q 2))
theorem luma_of {w q : Nat → Nat} {a b c d e : Nat} (h1 : FR (fop .mul (w 0) (q 0)) a) (h2 : FR (fop .mul (w 1) (q 1)) b) (h3 : FR (fop .add a b) c) (h4 : FR (fop .mul (w 2) (q 2)) d) (h5 : FR (fop .add c d) e) : cl e = lumaV w q := by
  unfold lumaV
  refine h5.cl' ?_ (h4.cl.trans (cl_fo _ _ _).symm)
  exact (h3.cl' (h1.cl.trans (cl_fo _ _ _).symm) (h2.cl.trans (cl_fo _ _ _).symm)).trans (cl_fo _ _ _).symm
theorem cl_luma (w q : Nat → Nat) : cl (lumaV w q) = lumaV w q := cl_fo _ _ _
/-- all of a row are numbers -/
def numsB (l : List Nat) : Bool := l.all numB
theorem nums_T {l : List Nat} (h : ∀ i (hi : i < l.length), numB l[i] = true) : true = numsB l := by
  symm
  unfold numsB
  rw [List.all_eq_true]
  intro x hx
  obtain ⟨i, hi, rfl⟩ := List.getElem_of_mem hx
  exact h i hi
theorem nums_F {l : List Nat} {i : Nat} (hi : i < l.length) (h : numB l[i] = false) : false = numsB l := by
  symm
  unfold numsB
  rw [List.all_eq_false]
  exact ⟨l[i], List.getElem_mem hi, by rw [h]; decide⟩
end Go.Proofs.YtapcgokcfmklbaaDoor
