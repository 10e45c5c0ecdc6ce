/-
  Shares: what the table gives. No program in sight. Conditions: as each theorem says.
-/
import Derived.Test.YtapcgokcfmklbaaDoorShrA
import Derived.Test.YtapcgokcfmklbaaDoorShrB
import Derived.Test.YtapcgokcfmklbaaDoorShrC
import Derived.Test.YtapcgokcfmklbaaDoorShrD
namespace Go.Proofs.YtapcgokcfmklbaaDoor
open Go Go.RowKit

theorem row_of {n a i : Nat} (h : ((List.range n).all fun i => rowOK (a + i)) = true) (h1 : a ≤ i) (h2 : i < a + n) : rowOK i = true := by
  rw [List.all_eq_true] at h
  have := h (i - a) (List.mem_range.2 (by omega))
  rwa [show a + (i - a) = i by omega] at this
theorem rowOK_all {i : Nat} (h : i < 251) : rowOK i = true := by
  by_cases h1 : i < 36
  · exact row_of rowsA (by omega) (by omega)
  · by_cases h2 : i < 76
    · exact row_of rowsB (by omega) (by omega)
    · by_cases h3 : i < 126
      · exact row_of rowsC (by omega) (by omega)
      · exact row_of rowsD (by omega) (by omega)
theorem row_gen {T : List (Nat × Nat)} {i j : Nat} (h : (T.drop (i + 1)).all (okQ (T.getD i (0, 0))) = true) (hl : T.length = 251) (hi : i < j) (hj : j < 251) : okQ (T.getD i (0, 0)) (T.getD j (0, 0)) = true := by
  rw [List.all_eq_true] at h
  refine h _ ?_
  rw [List.getD_eq_getElem?_getD (i := j), List.getElem?_eq_getElem (by omega), Option.getD_some]
  have h2 : (T.drop (i + 1))[j - (i + 1)]? = some T[j] := by
    rw [List.getElem?_drop, show i + 1 + (j - (i + 1)) = j by omega, List.getElem?_eq_getElem (by omega)]
  exact List.mem_of_getElem? h2
theorem shB_gen {T : List (Nat × Nat)} (hT : ∀ k : Nat, k < 251 → T[k]? = some (cvF ((k + 1 : Nat) : Int), (T.getD k (0, 0)).2) ∧ floatToFloatBits .f32 (cvF ((k + 1 : Nat) : Int)) .f64 = some (T.getD k (0, 0)).2)
    (hQ : ∀ i j, i < j → j < 251 → okQ (T.getD i (0, 0)) (T.getD j (0, 0)) = true) {a b : Nat} (h1 : 1 ≤ a) (h2 : a < b) (h3 : b ≤ 251) : fop .quo (cvF a) (cvF b) = some (shB a b) ∧ 0 < shB a b ∧ shB a b < 2139095040 ∧
    ∃ x y z, floatToFloatBits .f32 (cvF a) .f64 = some x ∧ floatToFloatBits .f32 (cvF b) .f64 = some y ∧ Ieee.double.div x y = some z ∧ floatToFloatBits .f64 z .f32 = some (shB a b) := by
  have h := hQ (a - 1) (b - 1) (by omega) (by omega)
  obtain ⟨p1, p2⟩ := hT (a - 1) (by omega)
  obtain ⟨q1, q2⟩ := hT (b - 1) (by omega)
  have ea : T.getD (a - 1) (0, 0) = (cvF ((a - 1 + 1 : Nat) : Int), (T.getD (a - 1) (0, 0)).2) := by
    conv => lhs; rw [List.getD_eq_getElem?_getD, p1]
    rfl
  have eb : T.getD (b - 1) (0, 0) = (cvF ((b - 1 + 1 : Nat) : Int), (T.getD (b - 1) (0, 0)).2) := by
    conv => lhs; rw [List.getD_eq_getElem?_getD, q1]
    rfl
  rw [show a - 1 + 1 = a by omega] at p2 ea
  rw [show b - 1 + 1 = b by omega] at q2 eb
  generalize (T.getD (a - 1) (0, 0)).2 = x at *
  generalize (T.getD (b - 1) (0, 0)).2 = y at *
  rw [ea, eb] at h
  unfold okQ at h
  simp only at h
  split at h
  · cases h
  · rename_i r hr
    simp only [Bool.and_eq_true, Nat.blt_eq] at h
    obtain ⟨⟨k1, k2⟩, k3⟩ := h
    split at k3
    · cases k3
    · rename_i z hz
      split at k3
      · cases k3
      · rename_i s hs
        have e := Nat.eq_of_beq_eq_true k3
        subst e
        have es : shB a b = s := by unfold shB; rw [hr]; rfl
        rw [es]
        exact ⟨hr, k1, k2, x, y, z, p2, q2, hz, hs⟩
theorem tabQ_len : tabQ.length = 251 := by decide +kernel
theorem okQ_ab (i j : Nat) (hi : i < j) (hj : j < 251) : okQ (tabQ.getD i (0, 0)) (tabQ.getD j (0, 0)) = true := row_gen (T := tabQ) (rowOK_all (show i < 251 by omega)) tabQ_len hi hj
theorem shB_ok {a b : Nat} (h1 : 1 ≤ a) (h2 : a < b) (h3 : b ≤ 251) : fop .quo (cvF a) (cvF b) = some (shB a b) ∧ 0 < shB a b ∧ shB a b < 2139095040 ∧
    ∃ x y z, floatToFloatBits .f32 (cvF a) .f64 = some x ∧ floatToFloatBits .f32 (cvF b) .f64 = some y ∧ Ieee.double.div x y = some z ∧ floatToFloatBits .f64 z .f32 = some (shB a b) := shB_gen tabQ_at okQ_ab h1 h2 h3
end Go.Proofs.YtapcgokcfmklbaaDoor
