/-
  Shares: quotients of small numbers, at once and by way of 64 bits. No program in sight. Conditions: as each theorem says.
-/
import Derived.Test.YtapcgokcfmklbaaDoorDbl4
import Derived.Test.YtapcgokcfmklbaaDoorOps3
namespace Go.Proofs.YtapcgokcfmklbaaDoor
open Go Go.RowKit

/-- a / b as a single -/
def shB (a b : Nat) : Nat := (fop .quo (cvF a) (cvF b)).getD 0
theorem cv_read : ∀ k : Nat, k < 252 → 0 < k → (match Ieee.single.read (cvF (k : Int)) with | .number false m i => decide (8388608 ≤ m) && decide (m < 16777216) && decide (-23 ≤ i) && decide (i ≤ -16) | _ => false) = true := by decide +kernel
theorem cv_num {k : Nat} (h1 : k < 252) (h2 : 0 < k) : ∃ m i, Ieee.single.read (cvF (k : Int)) = .number false m i ∧ 8388608 ≤ m ∧ m < 16777216 ∧ -23 ≤ i ∧ i ≤ -16 := by
  have h := cv_read k h1 h2
  split at h
  · rename_i m i hr
    simp only [Bool.and_eq_true, decide_eq_true_eq] at h
    exact ⟨m, i, hr, h.1.1.1, h.1.1.2, h.1.2, h.2⟩
  · cases h
theorem log_23 {m : Nat} (h1 : 8388608 ≤ m) (h2 : m < 16777216) : m.log2 = 23 := by
  have hm : m ≠ 0 := by omega
  have e1 : (2 : Nat) ^ 23 = 8388608 := by decide
  have e2 : (2 : Nat) ^ (23 + 1) = 16777216 := by decide
  apply Nat.le_antisymm
  · exact Nat.le_of_lt_succ ((Nat.log2_lt hm).2 (by rw [e2]; exact h2))
  · exact (Nat.le_log2 hm).2 (by rw [e1]; exact h1)
theorem shB_ok {a b : Nat} (h1 : 1 ≤ a) (h2 : a < b) (h3 : b ≤ 251) : fop .quo (cvF a) (cvF b) = some (shB a b) ∧ 0 < shB a b ∧ shB a b < 2139095040 ∧
    ∃ x y z, floatToFloatBits .f32 (cvF a) .f64 = some x ∧ floatToFloatBits .f32 (cvF b) .f64 = some y ∧ Ieee.double.div x y = some z ∧ floatToFloatBits .f64 z .f32 = some (shB a b) := by
  obtain ⟨m, i, hx, m1, m2, i1, i2⟩ := cv_num (k := a) (by omega) (by omega)
  obtain ⟨n, j, hy, n1, n2, j1, j2⟩ := cv_num (k := b) (by omega) (by omega)
  have hm0 : m ≠ 0 := by omega
  have hn0 : n ≠ 0 := by omega
  have hn1 : 0 < n := by omega
  have hd : fop .quo (cvF a) (cvF b) = _ := single_div hx hy hn0
  rw [log_23 m1 m2, log_23 n1 n2, show 25 + 23 - 23 = 25 from rfl] at hd
  -- the size
  have c25 : (2 : Nat) ^ 25 = 33554432 := by decide
  have c26 : (2 : Nat) ^ 26 = 67108864 := by decide
  have c27 : (2 : Nat) ^ 27 = 134217728 := by decide
  have hQ1 : 16777216 ≤ m * 2 ^ 25 / n := (Nat.le_div_iff_mul_le hn1).2 (by rw [c25]; omega)
  have hQ2 : m * 2 ^ 25 / n < 67108864 := (Nat.div_lt_iff_lt_mul hn1).2 (by rw [c25]; omega)
  have hs12 : 2 * (m * 2 ^ 25 / n) ≤ stk (m * 2 ^ 25) n ∧ stk (m * 2 ^ 25) n ≤ 2 * (m * 2 ^ 25 / n) + 1 := by unfold stk; split <;> omega
  have hne1 : stk (m * 2 ^ 25) n ≠ 0 := by omega
  obtain ⟨S, hS⟩ : ∃ S, stk (m * 2 ^ 25) n = S := ⟨_, rfl⟩
  rw [hS] at hd hne1 hs12
  obtain ⟨l, hl⟩ : ∃ l, S.log2 = l := ⟨_, rfl⟩
  have hl12 : l = 25 ∨ l = 26 := by
    have k1 : 25 ≤ l := by rw [← hl]; exact (Nat.le_log2 hne1).2 (by rw [c25]; omega)
    have k2 : l < 27 := by rw [← hl]; exact (Nat.log2_lt hne1).2 (by rw [c27]; omega)
    omega
  have g1 : Ieee.single.fractionBits = 23 := rfl
  have g2 : Ieee.single.leastPlace = -149 := by decide
  have g3 : Ieee.single.binade = 8388608 := by decide
  have g4 : Ieee.single.infRung = 2139095040 := by decide
  obtain ⟨p, hp⟩ : ∃ p : Int, i - j - ((25 : Nat) : Int) - 1 = p := ⟨_, rfl⟩
  rw [hp] at hd
  have hnr := nearest_rnd Ieee.single (false ^^ false) hne1 (p := p) (L := p + l - 23) (by rw [g1, g2, hl]; omega)
  have q1 : (p - (p + l - 23)).toNat = 0 := by omega
  have q2 : (p + l - 23 - p).toNat = l - 23 := by omega
  rw [q1, q2, Nat.pow_zero, Nat.mul_one, g2, g3, g4] at hnr
  have hb := rnd_bd (m := S) (k := l - 23) hne1 (by omega)
  rw [hl, show l - (l - 23) = 23 by omega] at hb
  have c23 : (2 : Nat) ^ 23 = 8388608 := by decide
  have c24 : (2 : Nat) ^ (23 + 1) = 16777216 := by decide
  rw [c23, c24] at hb
  obtain ⟨u, hu⟩ : ∃ u : Nat, (p + l - 23 - -149).toNat = u := ⟨_, rfl⟩
  have hub : u ≤ 133 := by omega
  rw [hu, Nat.min_eq_left (by omega)] at hnr
  have hw : Ieee.single.word (false ^^ false) (u * 8388608 + rnd S (l - 23)) = u * 8388608 + rnd S (l - 23) := rfl
  rw [hw] at hnr
  rw [hnr] at hd
  obtain ⟨r, hr⟩ : ∃ r, u * 8388608 + rnd S (l - 23) = r := ⟨_, rfl⟩
  rw [hr] at hd
  have hrb : 0 < r ∧ r < 2139095040 := by omega
  have hsh : shB a b = r := by unfold shB; rw [hd]; rfl
  rw [hsh]
  have hfin : (Ieee.single.read r).isInfinity = false := by
    have e1 : Ieee.single.signWeight = 2147483648 := rfl
    unfold Ieee.Format.read
    simp only [e1, g3, g4]
    rw [Nat.mod_eq_of_lt (show r < 2147483648 by omega)]
    split
    · rfl
    · rw [if_pos hrb.2]; rfl
  obtain ⟨X, Y, Z, k1, k2, k3, k4⟩ := quo_double hx hy hm0 hn0 hd hfin
  exact ⟨hd, hrb.1, hrb.2, X, Y, Z, k1, k2, k3, k4⟩
end Go.Proofs.YtapcgokcfmklbaaDoor
