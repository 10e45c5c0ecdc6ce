/-
  Plain law of frames in texts: the head, what a text reads as. No program in sight. Conditions: as each theorem says.
-/
import Derived.Test.YtapcgokcfmklbaaDoorLin
import Derived.Test.YtapcgokcfmklbaaDoorC1
namespace Go.Proofs.YtapcgokcfmklbaaDoor
open Go Go.RowKit

theorem sv_cell {L : List (List UInt8)} {k : Nat} (h : k < L.length) : (L.map sv)[k]? = some (sv (L.getD k [])) := by
  rw [List.getElem?_map, List.getD_eq_getElem?_getD, List.getElem?_eq_getElem h]
  rfl
theorem at_getD {L : List (List UInt8)} {k : Nat} (h : k < L.length) : L[k]? = some (L.getD k []) := by
  rw [List.getD_eq_getElem?_getD, List.getElem?_eq_getElem h]
  rfl
theorem getD_mem {L : List (List UInt8)} {k : Nat} (h : k < L.length) : L.getD k [] ∈ L := List.mem_of_getElem? (at_getD h)
def wd (l : List UInt8) (k : Nat) : List UInt8 := (wds l).getD k []
def frameB : List UInt8 := 102 :: 114 :: 97 :: 109 :: 101 :: []
/-- is it a frame's head -/
def hdB (l : List UInt8) : Bool := (wds l).length == 5 && (wd l 0 == frameB && (intB (wd l 1) && (intB (wd l 2) && (intB (wd l 3) && intB (wd l 4)))))
def hdV (l : List UInt8) (k : Nat) : Int := intV (wd l (k + 1))
theorem hdB_len {l : List UInt8} (h : ((wds l).length : Int) ≠ 5) : hdB l = false := by
  unfold hdB
  rw [show ((wds l).length == 5) = false by rw [beq_eq_false_iff_ne]; omega]
  rfl
theorem hdB_name {l : List UInt8} (h : wd l 0 ≠ frameB) : hdB l = false := by
  unfold hdB
  rw [show (wd l 0 == frameB) = false by rw [beq_eq_false_iff_ne]; exact h]
  simp
theorem hdB_int {l : List UInt8} {i : Nat} (hi : i < 4) (h : intB (wd l (i + 1)) = false) : hdB l = false := by
  unfold hdB
  match i, hi, h with
  | 0, _, h => rw [h]; simp
  | 1, _, h => rw [h]; simp
  | 2, _, h => rw [h]; simp
  | 3, _, h => rw [h]; simp
theorem hdB_ok {l : List UInt8} (h : (wds l).length = 5) (h0 : wd l 0 = frameB) (hk : ∀ k, k < 4 → intB (wd l (k + 1)) = true) : hdB l = true := by
  unfold hdB
  rw [show ((wds l).length == 5) = true by rw [beq_iff_eq]; exact h, show (wd l 0 == frameB) = true by rw [beq_iff_eq]; exact h0]
  have h1 := hk 0 (by omega)
  have h2 := hk 1 (by omega)
  have h3 := hk 2 (by omega)
  have h4 := hk 3 (by omega)
  rw [h1, h2, h3, h4]
  rfl
def updF (f : Nat → Int) (i : Nat) (x : Int) : Nat → Int := fun k => if k = i then x else f k
theorem set4 {f : Nat → Int} {i : Nat} {x : Int} (hi : i < 4) : [iv (f 0), iv (f 1), iv (f 2), iv (f 3)].set i (iv x) = [iv (updF f i x 0), iv (updF f i x 1), iv (updF f i x 2), iv (updF f i x 3)] := by
  match i, hi with
  | 0, _ => rfl
  | 1, _ => rfl
  | 2, _ => rfl
  | 3, _ => rfl
theorem updF_at {f : Nat → Int} {i : Nat} {x : Int} : updF f i x i = x := if_pos rfl
theorem updF_ne {f : Nat → Int} {i k : Nat} {x : Int} (h : k ≠ i) : updF f i x k = f k := if_neg h
theorem hdV_bd (l : List UInt8) (k : Nat) : -9223372036854775808 ≤ hdV l k ∧ hdV l k ≤ 9223372036854775807 := intV_bd _

/-! ### a text's frame -/
/-- the first place that is bad -/
def scan (f : Nat → Int) : Nat → Nat → Option Nat
  | 0, _ => none
  | k + 1, i => if f i ≠ 0 then some i else scan f k (i + 1)
theorem scan_some {f : Nat → Int} : ∀ (k i j : Nat), i ≤ j → j < i + k → (∀ q, i ≤ q → q < j → f q = 0) → f j ≠ 0 → scan f k i = some j
  | 0, i, j, h1, h2, _, _ => by omega
  | k + 1, i, j, h1, h2, hz, hj => by
    unfold scan
    by_cases e : i = j
    · subst e; rw [if_pos hj]
    · rw [if_neg (by rw [hz i (Nat.le_refl _) (by omega)]; simp)]
      exact scan_some k (i + 1) j (by omega) (by omega) (fun q h3 h4 => hz q (by omega) h4) hj
theorem scan_none {f : Nat → Int} : ∀ (k i : Nat), (∀ q, i ≤ q → q < i + k → f q = 0) → scan f k i = none
  | 0, i, _ => rfl
  | k + 1, i, hz => by
    unfold scan
    rw [if_neg (by rw [hz i (Nat.le_refl _) (by omega)]; simp)]
    exact scan_none k (i + 1) (fun q h3 h4 => hz q (by omega) (by omega))
def badE (l : List UInt8) (W : Int) (i : Nat) : Int := if i + 1 < (lns l).length then rowE (ln l i) W else 9
theorem badE_F {l : List UInt8} {W : Int} {i : Nat} (h : ¬ i + 1 < (lns l).length) : badE l W i = 9 := if_neg h
theorem badE_T {l : List UInt8} {W : Int} {i : Nat} (h : i + 1 < (lns l).length) : badE l W i = rowE (ln l i) W := if_pos h
theorem badE_0 {l : List UInt8} {W : Int} {i : Nat} (h : badE l W i = 0) : i + 1 < (lns l).length ∧ rowE (ln l i) W = 0 := by
  unfold badE at h
  split at h
  · rename_i h1; exact ⟨h1, h⟩
  · cases h
def tX (l : List UInt8) (k : Nat) : Int := hdV (ln l 0) k
def tReg (l : List UInt8) : Int := regErr (tX l 0) (tX l 1) (tX l 2) (tX l 3)
def endB (l : List UInt8) : Bool := (lns l).length == (tX l 3).toNat + 2 && ln l ((tX l 3).toNat + 1) == []
/-- where and what the error is; (0, 0): none -/
def prsR (l : List UInt8) : Int × Int :=
  if 1048576 < l.length then (0, 4)
  else if (lns l).length = 1 ∨ hdB (ln l 0) = false then (0, 9)
  else if tReg l ≠ 0 then (0, tReg l)
  else match scan (badE l (tX l 2)) (tX l 3).toNat 1 with
    | some i => ((i : Int), badE l (tX l 2) i)
    | none => if endB l then (0, 0) else (((tX l 3).toNat + 1 : Nat), 9)
theorem prs_big {l : List UInt8} (h : 1048576 < l.length) : prsR l = (0, 4) := if_pos h
theorem prs_head {l : List UInt8} (h : ¬ 1048576 < l.length) (h2 : (lns l).length = 1 ∨ hdB (ln l 0) = false) : prsR l = (0, 9) := by
  unfold prsR; rw [if_neg h, if_pos h2]
theorem prs_reg {l : List UInt8} (h : ¬ 1048576 < l.length) (h2 : (lns l).length ≠ 1) (h3 : hdB (ln l 0) = true) (h4 : tReg l ≠ 0) : prsR l = (0, tReg l) := by
  unfold prsR; rw [if_neg h, if_neg (by rw [h3]; simp [h2]), if_pos h4]
theorem prs_row {l : List UInt8} {i : Nat} (h : ¬ 1048576 < l.length) (h2 : (lns l).length ≠ 1) (h3 : hdB (ln l 0) = true) (h4 : tReg l = 0) (hi : i < (tX l 3).toNat) (hz : ∀ j, j < i → badE l (tX l 2) (j + 1) = 0) (hb : badE l (tX l 2) (i + 1) ≠ 0) :
    prsR l = (((i + 1 : Nat) : Int), badE l (tX l 2) (i + 1)) := by
  have hs := scan_some (f := badE l (tX l 2)) (tX l 3).toNat 1 (i + 1) (by omega) (by omega) (fun q h5 h6 => by
    obtain ⟨p, rfl⟩ : ∃ p, q = p + 1 := ⟨q - 1, by omega⟩
    exact hz p (by omega)) hb
  unfold prsR
  rw [if_neg h, if_neg (by rw [h3]; simp [h2]), if_neg (by rw [h4]; simp), hs]
theorem prs_scan {l : List UInt8} (hz : ∀ j, j < (tX l 3).toNat → badE l (tX l 2) (j + 1) = 0) : scan (badE l (tX l 2)) (tX l 3).toNat 1 = none := scan_none _ _ (fun q h5 h6 => by
    obtain ⟨p, rfl⟩ : ∃ p, q = p + 1 := ⟨q - 1, by omega⟩
    exact hz p (by omega))
theorem prs_end {l : List UInt8} (h : ¬ 1048576 < l.length) (h2 : (lns l).length ≠ 1) (h3 : hdB (ln l 0) = true) (h4 : tReg l = 0) (hz : ∀ j, j < (tX l 3).toNat → badE l (tX l 2) (j + 1) = 0) (he : endB l = false) :
    prsR l = ((((tX l 3).toNat + 1 : Nat) : Int), 9) := by
  unfold prsR
  rw [if_neg h, if_neg (by rw [h3]; simp [h2]), if_neg (by rw [h4]; simp), prs_scan hz]
  simp only
  rw [if_neg (by rw [he]; simp)]
theorem prs_ok {l : List UInt8} (h : ¬ 1048576 < l.length) (h2 : (lns l).length ≠ 1) (h3 : hdB (ln l 0) = true) (h4 : tReg l = 0) (hz : ∀ j, j < (tX l 3).toNat → badE l (tX l 2) (j + 1) = 0) (he : endB l = true) : prsR l = (0, 0) := by
  unfold prsR
  rw [if_neg h, if_neg (by rw [h3]; simp [h2]), if_neg (by rw [h4]; simp), prs_scan hz]
  simp only
  rw [if_pos he]
theorem endB_T {l : List UInt8} (h1 : (lns l).length = (tX l 3).toNat + 2) (h2 : ln l ((tX l 3).toNat + 1) = []) : endB l = true := by
  unfold endB; rw [h1, h2]; simp
theorem endB_1 {l : List UInt8} (h1 : (lns l).length ≠ (tX l 3).toNat + 2) : endB l = false := by
  unfold endB
  rw [show ((lns l).length == (tX l 3).toNat + 2) = false by rw [beq_eq_false_iff_ne]; exact h1]
  rfl
theorem endB_2 {l : List UInt8} (h2 : ln l ((tX l 3).toNat + 1) ≠ []) : endB l = false := by
  unfold endB
  rw [show (ln l ((tX l 3).toNat + 1) == []) = false by rw [beq_eq_false_iff_ne]; exact h2]
  simp
/-- the numbers of the first i rows -/
def rowsV (l : List UInt8) (i : Nat) : List Nat := (List.range i).flatMap fun j => rowV (ln l (j + 1))
theorem rowsV_succ (l : List UInt8) (i : Nat) : rowsV l (i + 1) = rowsV l i ++ rowV (ln l (i + 1)) := by
  unfold rowsV; rw [List.range_succ]; simp
theorem rowV_w {l : List UInt8} {w : Nat} (h : rowE l (w : Int) = 0) : (rowV l).length = 4 * w := by
  have h1 := rowE_0 h
  rw [rowV_len h1.2]
  omega
theorem rowsV_len {l : List UInt8} {w : Nat} : ∀ i, (∀ j, j < i → badE l (w : Int) (j + 1) = 0) → (rowsV l i).length = 4 * (w * i)
  | 0, _ => by simp [rowsV]
  | i + 1, h => by
    rw [rowsV_succ, List.length_append, rowsV_len i (fun j hj => h j (by omega)), rowV_w (badE_0 (h i (by omega))).2, Nat.mul_succ]
    omega
end Go.Proofs.YtapcgokcfmklbaaDoor
