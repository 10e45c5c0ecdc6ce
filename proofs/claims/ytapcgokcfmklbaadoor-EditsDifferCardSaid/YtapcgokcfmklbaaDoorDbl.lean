/-
  Rounding twice: a number rounded to 64 bits and then to 32 bits is the number rounded to 32 bits at once, where the first step makes no new middle. No program in sight. Conditions: as each theorem says.
-/
import Derived.Test.YtapcgokcfmklbaaDoorMatte
namespace Go.Proofs.YtapcgokcfmklbaaDoor
open Go Go.RowKit

/-- n / 2^a to the nearest, ties to even -/
def rnd (n a : Nat) : Nat := n / 2 ^ a + (if 2 ^ a < 2 * (n % 2 ^ a) ∨ (2 ^ a = 2 * (n % 2 ^ a) ∧ n / 2 ^ a % 2 = 1) then 1 else 0)
theorem cut_even (neg : Bool) (n a : Nat) : Ieee.Toward.even.cut neg n a = rnd n a := by
  unfold Ieee.Toward.cut rnd
  simp only [Nat.one_shiftLeft]
  have hl : n < 2 ^ (n.log2 + 1) := Nat.lt_log2_self
  by_cases h : a ≤ n.log2 + 2
  · rw [Nat.min_eq_left h]
    congr 1
    by_cases h1 : 2 ^ a < 2 * (n % 2 ^ a)
    · simp [h1]
    · by_cases h2 : 2 ^ a = 2 * (n % 2 ^ a) ∧ n / 2 ^ a % 2 = 1
      · simp [h2.1.symm, h2.2]
      · have h3 : ¬ (2 ^ a < 2 * (n % 2 ^ a) ∨ (2 ^ a = 2 * (n % 2 ^ a) ∧ n / 2 ^ a % 2 = 1)) := by
          rintro (h | h)
          · exact h1 h
          · exact h2 h
        rw [if_neg h3]
        have h4 : (decide (2 ^ a < 2 * (n % 2 ^ a)) || (2 ^ a == 2 * (n % 2 ^ a) && n / 2 ^ a % 2 == 1)) = false := by
          rw [Bool.or_eq_false_iff, decide_eq_false h1]
          refine ⟨rfl, ?_⟩
          cases hc : (2 ^ a == 2 * (n % 2 ^ a) && n / 2 ^ a % 2 == 1)
          · rfl
          · rw [Bool.and_eq_true, beq_iff_eq, beq_iff_eq] at hc
            exact absurd hc h2
        rw [h4]; rfl
  · rw [Nat.min_eq_right (by omega)]
    have e1 : 2 ^ (n.log2 + 2) = 2 * 2 ^ (n.log2 + 1) := by rw [Nat.pow_succ, Nat.mul_comm]
    have h1 : n < 2 ^ (n.log2 + 2) := by omega
    have h2 : 2 ^ (n.log2 + 2) < 2 ^ a := Nat.pow_lt_pow_right (by decide) (by omega)
    have h3 : n < 2 ^ a := by omega
    rw [Nat.div_eq_of_lt h1, Nat.mod_eq_of_lt h1, Nat.div_eq_of_lt h3, Nat.mod_eq_of_lt h3]
    have h4 : ¬ (2 ^ (n.log2 + 2) < 2 * n) := by omega
    have h5 : ¬ (2 ^ a < 2 * n ∨ (2 ^ a = 2 * n ∧ 0 % 2 = 1)) := by omega
    rw [if_neg h5]
    simp [h4]
theorem rnd_zero (n : Nat) : rnd n 0 = n := by
  unfold rnd
  rw [Nat.pow_zero, Nat.div_one, Nat.mod_one, if_neg (by omega)]; rfl
theorem rnd_up (m a t : Nat) : rnd (m * 2 ^ t) (a + t) = rnd m a := by
  unfold rnd
  have ht : 0 < 2 ^ t := Nat.two_pow_pos t
  have e1 : m * 2 ^ t / 2 ^ (a + t) = m / 2 ^ a := by rw [Nat.pow_add, Nat.mul_div_mul_right _ _ ht]
  have e2 : m * 2 ^ t % 2 ^ (a + t) = (m % 2 ^ a) * 2 ^ t := by rw [Nat.pow_add, Nat.mul_mod_mul_right]
  rw [e1, e2, Nat.pow_add]
  have h1 : 2 ^ a * 2 ^ t < 2 * (m % 2 ^ a * 2 ^ t) ↔ 2 ^ a < 2 * (m % 2 ^ a) := by
    rw [← Nat.mul_assoc]; exact Nat.mul_lt_mul_right ht
  have h2 : 2 ^ a * 2 ^ t = 2 * (m % 2 ^ a * 2 ^ t) ↔ 2 ^ a = 2 * (m % 2 ^ a) := by
    rw [← Nat.mul_assoc]; exact Nat.mul_right_cancel_iff ht ..
  simp only [h1, h2]
theorem rnd_exact (m a : Nat) : rnd (m * 2 ^ a) a = m := by
  have := rnd_up m 0 a
  rw [Nat.zero_add, rnd_zero] at this; exact this
/-- rounding in two steps -/
theorem rnd_rnd {n a G : Nat} (hG : 1 ≤ G) (h : rnd n a % 2 ^ G = 2 ^ (G - 1) → n % 2 ^ a = 0) : rnd (rnd n a) G = rnd n (a + G) := by
  have hA : 0 < 2 ^ a := Nat.two_pow_pos a
  have hg : 0 < 2 ^ G := Nat.two_pow_pos G
  have hg1 : 2 ^ G = 2 * 2 ^ (G - 1) := by rw [← Nat.pow_succ']; congr 1; omega
  by_cases hs : n % 2 ^ a = 0
  · have hn : n = n / 2 ^ a * 2 ^ a := by have := Nat.div_add_mod n (2 ^ a); rw [hs, Nat.add_zero, Nat.mul_comm] at this; exact this.symm
    have hk : rnd n a = n / 2 ^ a := by
      unfold rnd; rw [hs, if_neg (by omega)]; rfl
    rw [hk]
    conv => rhs; rw [hn, Nat.add_comm]
    exact (rnd_up _ _ _).symm
  · have hs' : 0 < n % 2 ^ a := Nat.pos_of_ne_zero hs
    have hsl : n % 2 ^ a < 2 ^ a := Nat.mod_lt _ hA
    have hdm := Nat.div_add_mod n (2 ^ a)
    obtain ⟨N, hN⟩ : ∃ N, n / 2 ^ a = N := ⟨_, rfl⟩
    obtain ⟨s, hsv⟩ : ∃ s, n % 2 ^ a = s := ⟨_, rfl⟩
    rw [hN, hsv] at hdm
    rw [hsv] at hs hs' hsl h
    have hdm2 := Nat.div_add_mod N (2 ^ G)
    have htl : N % 2 ^ G < 2 ^ G := Nat.mod_lt _ hg
    obtain ⟨q, hq⟩ : ∃ q, N / 2 ^ G = q := ⟨_, rfl⟩
    obtain ⟨t, ht⟩ : ∃ t, N % 2 ^ G = t := ⟨_, rfl⟩
    rw [hq, ht] at hdm2
    rw [ht] at htl
    -- the right side
    have e1 : n / 2 ^ (a + G) = q := by rw [Nat.pow_add, ← Nat.div_div_eq_div_mul, hN, hq]
    have e2 : n % 2 ^ (a + G) = t * 2 ^ a + s := by
      have h1 := Nat.div_add_mod n (2 ^ (a + G))
      rw [e1] at h1
      have h2 : 2 ^ (a + G) * q = 2 ^ a * (2 ^ G * q) := by rw [Nat.pow_add, Nat.mul_assoc]
      have h3 : 2 ^ a * N = 2 ^ a * (2 ^ G * q) + t * 2 ^ a := by rw [← hdm2, Nat.mul_add, Nat.mul_comm t]
      omega
    have e3 : 2 ^ (a + G) = 2 * (2 ^ (G - 1) * 2 ^ a) := by rw [Nat.pow_add, hg1]; rw [Nat.mul_comm, Nat.mul_assoc]
    have hR : rnd n (a + G) = q + (if 2 ^ (G - 1) ≤ t then 1 else 0) := by
      unfold rnd
      rw [e1, e2, e3]
      congr 1
      by_cases hc : 2 ^ (G - 1) ≤ t
      · rw [if_pos hc, if_pos]
        left
        have := Nat.mul_le_mul_right (2 ^ a) hc
        omega
      · rw [if_neg hc, if_neg]
        have h4 := Nat.mul_le_mul_right (2 ^ a) (show t + 1 ≤ 2 ^ (G - 1) by omega)
        rw [Nat.add_mul, Nat.one_mul] at h4
        omega
    rw [hR]
    have hK : rnd n a = N ∨ rnd n a = N + 1 := by
      unfold rnd; rw [hN]; split
      · exact .inr rfl
      · exact .inl rfl
    rcases hK with hK | hK
    · rw [hK] at h ⊢
      have hne : t ≠ 2 ^ (G - 1) := fun hh => hs (h (by rw [ht, hh]))
      unfold rnd
      rw [hq, ht, hg1]
      congr 1
      by_cases hc : 2 ^ (G - 1) ≤ t
      · rw [if_pos hc, if_pos (by omega)]
      · rw [if_neg hc, if_neg (by omega)]
    · rw [hK] at h ⊢
      by_cases hlast : t + 1 = 2 ^ G
      · have h5 : N + 1 = (q + 1) * 2 ^ G := by rw [Nat.add_mul, Nat.one_mul, Nat.mul_comm q]; omega
        rw [h5, rnd_exact, if_pos (by omega)]
      · have h6 : (N + 1) / 2 ^ G = q ∧ (N + 1) % 2 ^ G = t + 1 := by
          have h7 : N + 1 = 2 ^ G * q + (t + 1) := by omega
          rw [h7, Nat.mul_add_div hg, Nat.mul_add_mod, Nat.div_eq_of_lt (by omega), Nat.mod_eq_of_lt (by omega)]
          exact ⟨by omega, rfl⟩
        have hne : t + 1 ≠ 2 ^ (G - 1) := fun hh => hs (h (by rw [h6.2, hh]))
        unfold rnd
        rw [h6.1, h6.2, hg1]
        congr 1
        by_cases hc : 2 ^ (G - 1) ≤ t
        · rw [if_pos hc, if_pos (by omega)]
        · rw [if_neg hc, if_neg (by omega)]
theorem log2_up {m t : Nat} (h : m ≠ 0) : (m * 2 ^ t).log2 = m.log2 + t := by
  have h2 : m * 2 ^ t ≠ 0 := Nat.mul_ne_zero h (Nat.ne_of_gt (Nat.two_pow_pos t))
  apply Nat.le_antisymm
  · have h3 : m < 2 ^ (m.log2 + 1) := Nat.lt_log2_self
    have h4 : m * 2 ^ t < 2 ^ (m.log2 + t + 1) := by
      have := Nat.mul_lt_mul_of_pos_right h3 (Nat.two_pow_pos t)
      rw [← Nat.pow_add] at this
      rw [show m.log2 + t + 1 = m.log2 + 1 + t by omega]; exact this
    exact Nat.le_of_lt_succ ((Nat.log2_lt h2).2 h4)
  · rw [Nat.le_log2 h2, Nat.pow_add]
    exact Nat.mul_le_mul_right _ (Nat.log2_self_le h)
/-- what 'nearest' does, in the words of rnd -/
theorem nearest_rnd (f : Ieee.Format) (neg : Bool) {m : Nat} {p L : Int} (h : m ≠ 0) (hL : max (p + m.log2 - f.fractionBits) f.leastPlace = L) :
    f.nearest neg m p = f.word neg (min ((L - f.leastPlace).toNat * f.binade + rnd (m * 2 ^ (p - L).toNat) (L - p).toNat) f.infRung) := by
  unfold Ieee.Format.nearest
  rw [if_neg h]
  simp only [hL, cut_even, Nat.shiftLeft_eq]
/-- only the value counts -/
theorem nearest_up (f : Ieee.Format) (neg : Bool) {m t : Nat} {p : Int} (h : m ≠ 0) : f.nearest neg (m * 2 ^ t) p = f.nearest neg m (p + t) := by
  have h2 : m * 2 ^ t ≠ 0 := Nat.mul_ne_zero h (Nat.ne_of_gt (Nat.two_pow_pos t))
  obtain ⟨L, hL⟩ : ∃ L, max (p + t + m.log2 - f.fractionBits) f.leastPlace = L := ⟨_, rfl⟩
  rw [nearest_rnd f neg h hL, nearest_rnd f neg h2 (L := L) (by rw [log2_up h, ← hL]; congr 1; omega)]
  congr 3
  by_cases h3 : L ≤ p
  · have e1 : (L - p).toNat = 0 := by omega
    have e2 : (L - (p + t)).toNat = 0 := by omega
    rw [e1, e2, rnd_zero, rnd_zero, Nat.mul_assoc, ← Nat.pow_add]
    congr 2; omega
  · by_cases h4 : L ≤ p + t
    · have e1 : (p - L).toNat = 0 := by omega
      have e2 : (L - (p + t)).toNat = 0 := by omega
      have e3 : t = (p + t - L).toNat + (L - p).toNat := by omega
      rw [e1, e2, rnd_zero, Nat.pow_zero, Nat.mul_one]
      conv => lhs; rw [e3, Nat.pow_add, ← Nat.mul_assoc]
      rw [rnd_exact]
    · have e1 : (p - L).toNat = 0 := by omega
      have e2 : (p + t - L).toNat = 0 := by omega
      have e3 : (L - p).toNat = (L - (p + t)).toNat + t := by omega
      rw [e1, e2, Nat.pow_zero, Nat.mul_one, Nat.mul_one, e3, rnd_up]
theorem rnd_bd {m k : Nat} (h : m ≠ 0) (hk : k ≤ m.log2) : 2 ^ (m.log2 - k) ≤ rnd m k ∧ rnd m k ≤ 2 ^ (m.log2 - k + 1) := by
  have h1 := Nat.log2_self_le h
  have h2 : m < 2 ^ (m.log2 + 1) := Nat.lt_log2_self
  have hp := Nat.two_pow_pos k
  have e1 : 2 ^ m.log2 = 2 ^ (m.log2 - k) * 2 ^ k := by rw [← Nat.pow_add]; congr 1; omega
  have e2 : 2 ^ (m.log2 + 1) = 2 ^ (m.log2 - k + 1) * 2 ^ k := by rw [← Nat.pow_add]; congr 1; omega
  have h3 : 2 ^ (m.log2 - k) ≤ m / 2 ^ k := by rw [Nat.le_div_iff_mul_le hp, ← e1]; exact h1
  have h4 : m / 2 ^ k < 2 ^ (m.log2 - k + 1) := by rw [Nat.div_lt_iff_lt_mul hp, ← e2]; exact h2
  unfold rnd
  split <;> omega
/-- Rounded to 64 bits and then to 32 bits: as rounded at once. -/
theorem dbl_round (neg : Bool) {m : Nat} {p : Int} (h : m ≠ 0) (hlo : -1022 ≤ p + m.log2) (hhi : p + m.log2 ≤ 1000)
    (H : 52 < m.log2 → ∀ G : Nat, (G : Int) = max (p + m.log2 - 23) (-149) - (p + m.log2 - 52) → rnd m (m.log2 - 52) % 2 ^ G = 2 ^ (G - 1) → m % 2 ^ (m.log2 - 52) = 0) :
    ∃ m' p', Ieee.double.read (Ieee.double.nearest neg m p) = .number neg m' p' ∧ m' ≠ 0 ∧ Ieee.single.nearest neg m' p' = Ieee.single.nearest neg m p := by
  obtain ⟨E, hE⟩ : ∃ E, p + m.log2 = E := ⟨_, rfl⟩
  have f1 : Ieee.double.fractionBits = 52 := rfl
  have f2 : Ieee.double.leastPlace = -1074 := by decide
  have f3 : Ieee.double.binade = 4503599627370496 := by decide
  have f4 : Ieee.double.infRung = 9218868437227405312 := by decide
  have f5 : Ieee.double.signWeight = 9223372036854775808 := by decide
  have g1 : Ieee.single.fractionBits = 23 := rfl
  have g2 : Ieee.single.leastPlace = -149 := by decide
  have g3 : Ieee.single.binade = 8388608 := by decide
  have hD : max (p + m.log2 - Ieee.double.fractionBits) Ieee.double.leastPlace = E - 52 := by rw [f1, f2, hE]; omega
  obtain ⟨K, hK⟩ : ∃ K, rnd (m * 2 ^ (p - (E - 52)).toNat) (E - 52 - p).toNat = K := ⟨_, rfl⟩
  have hKb : 2 ^ 52 ≤ K ∧ K ≤ 2 ^ 53 := by
    by_cases hc : m.log2 ≤ 52
    · have e1 : (E - 52 - p).toNat = 0 := by omega
      have h2 : m * 2 ^ (p - (E - 52)).toNat ≠ 0 := Nat.mul_ne_zero h (Nat.ne_of_gt (Nat.two_pow_pos _))
      have h3 := log2_up (t := (p - (E - 52)).toNat) h
      have h4 : (m * 2 ^ (p - (E - 52)).toNat).log2 = 52 := by omega
      have h5 := rnd_bd (k := 0) h2 (Nat.zero_le _)
      rw [h4] at h5
      rw [e1] at hK
      rw [hK] at h5
      exact h5
    · have e1 : (p - (E - 52)).toNat = 0 := by omega
      have e2 : (E - 52 - p).toNat = m.log2 - 52 := by omega
      rw [e1, e2, Nat.pow_zero, Nat.mul_one] at hK
      have h5 := rnd_bd (k := m.log2 - 52) h (by omega)
      rw [hK, show m.log2 - (m.log2 - 52) = 52 by omega] at h5
      exact h5
  have hnear := nearest_rnd Ieee.double neg h hD
  rw [hK, f2, f3, f4] at hnear
  have hr : (E - 52 - -1074).toNat * 4503599627370496 + K < 9218868437227405312 := by omega
  rw [Nat.min_eq_left (by omega)] at hnear
  -- it is read as K at E - 52
  have hread : ∃ m' p', Ieee.double.read (Ieee.double.nearest neg m p) = .number neg m' p' ∧ m' ≠ 0 ∧ (m' = K ∧ p' = E - 52 ∨ K = 2 ^ 53 ∧ m' = 2 ^ 52 ∧ p' = E - 51) := by
    rw [hnear]
    obtain ⟨R, hR⟩ : ∃ R, (E - 52 - -1074).toNat * 4503599627370496 + K = R := ⟨_, rfl⟩
    rw [hR] at hr ⊢
    have hw1 : (Ieee.double.word neg R / 9223372036854775808 % 2 == 1) = neg := by
      unfold Ieee.Format.word
      rw [f5]
      cases neg
      · simp only [Bool.false_eq_true, if_false]
        rw [Nat.div_eq_of_lt (by omega)]; rfl
      · simp only [if_true]
        rw [show (9223372036854775808 + R) / 9223372036854775808 = 1 by omega]; rfl
    have hw2 : Ieee.double.word neg R % 9223372036854775808 = R := by
      unfold Ieee.Format.word
      rw [f5]
      cases neg
      · simp only [Bool.false_eq_true, if_false]; omega
      · simp only [if_true]; omega
    unfold Ieee.Format.read
    simp only [f2, f3, f4, f5]
    rw [hw1, hw2]
    obtain ⟨u, hu⟩ : ∃ u : Nat, (E - 52 - -1074).toNat = u := ⟨_, rfl⟩
    rw [hu] at hR
    have hEu : (u : Int) = E - 52 + 1074 := by omega
    rw [if_neg (show ¬ R < 4503599627370496 by omega), if_pos (by omega)]
    by_cases hc : K = 2 ^ 53
    · refine ⟨_, _, rfl, by omega, .inr ⟨hc, by omega, by omega⟩⟩
    · have : K < 2 ^ 53 := by omega
      refine ⟨_, _, rfl, by omega, .inl ⟨by omega, by omega⟩⟩
  obtain ⟨m', p', h1, h2, h3⟩ := hread
  refine ⟨m', p', h1, h2, ?_⟩
  have hK0 : K ≠ 0 := by omega
  have h4 : Ieee.single.nearest neg m' p' = Ieee.single.nearest neg K (E - 52) := by
    rcases h3 with ⟨rfl, rfl⟩ | ⟨e1, rfl, rfl⟩
    · rfl
    · have := nearest_up Ieee.single neg (m := 2 ^ 52) (t := 1) (p := E - 52) (by decide)
      rw [e1, show (2 : Nat) ^ 53 = 2 ^ 52 * 2 ^ 1 by decide, this]
      congr 1; omega
  rw [h4]
  by_cases hc : m.log2 ≤ 52
  · have e1 : (E - 52 - p).toNat = 0 := by omega
    rw [e1, rnd_zero] at hK
    rw [← hK, nearest_up Ieee.single neg h]
    congr 1; omega
  · have e1 : (p - (E - 52)).toNat = 0 := by omega
    have e2 : (E - 52 - p).toNat = m.log2 - 52 := by omega
    rw [e1, e2, Nat.pow_zero, Nat.mul_one] at hK
    obtain ⟨L, hL⟩ : ∃ L : Int, max (E - 23) (-149) = L := ⟨_, rfl⟩
    obtain ⟨G, hG⟩ : ∃ G : Nat, (G : Int) = L - (E - 52) := ⟨(L - (E - 52)).toNat, by omega⟩
    have hG29 : 29 ≤ G := by omega
    have hH := H (by omega) G (by rw [hE, hL]; omega)
    have hrr := rnd_rnd (n := m) (a := m.log2 - 52) (G := G) (by omega) hH
    rw [hK] at hrr
    have hS : Ieee.single.nearest neg m p = Ieee.single.word neg (min ((L + 149).toNat * 8388608 + rnd K G) Ieee.single.infRung) := by
      rw [nearest_rnd Ieee.single neg h (L := L) (by rw [g1, g2, hE]; exact hL), g2, g3]
      have e3 : (p - L).toNat = 0 := by omega
      have e4 : (L - p).toNat = m.log2 - 52 + G := by omega
      rw [e3, e4, Nat.pow_zero, Nat.mul_one, hrr]
      congr 4
    rw [hS]
    by_cases hK53 : K = 2 ^ 53
    · have hl : K.log2 = 53 := by rw [hK53]; decide
      by_cases hE2 : E - 22 ≤ -149
      · rw [nearest_rnd Ieee.single neg hK0 (L := L) (by rw [g1, g2, hl]; omega), g2, g3]
        have e3 : (E - 52 - L).toNat = 0 := by omega
        have e4 : (L - (E - 52)).toNat = G := by omega
        rw [e3, e4, Nat.pow_zero, Nat.mul_one]
        congr 4
      · rw [nearest_rnd Ieee.single neg hK0 (L := L + 1) (by rw [g1, g2, hl]; omega), g2, g3]
        have e3 : (E - 52 - (L + 1)).toNat = 0 := by omega
        have e4 : (L + 1 - (E - 52)).toNat = 30 := by omega
        have e5 : G = 29 := by omega
        rw [e3, e4, Nat.pow_zero, Nat.mul_one, e5, hK53]
        have e6 : rnd (2 ^ 53) 30 = 8388608 := by decide +kernel
        have e7 : rnd (2 ^ 53) 29 = 16777216 := by decide +kernel
        rw [e6, e7]
        have e8 : (L + 1 - -149).toNat * 8388608 + 8388608 = (L + 149).toNat * 8388608 + 16777216 := by omega
        rw [e8]
    · have hl : K.log2 = 52 := by
        apply Nat.le_antisymm
        · exact Nat.le_of_lt_succ ((Nat.log2_lt hK0).2 (by omega))
        · exact (Nat.le_log2 hK0).2 hKb.1
      rw [nearest_rnd Ieee.single neg hK0 (L := L) (by rw [g1, g2, hl]; omega), g2, g3]
      have e3 : (E - 52 - L).toNat = 0 := by omega
      have e4 : (L - (E - 52)).toNat = G := by omega
      rw [e3, e4, Nat.pow_zero, Nat.mul_one]
      congr 4
end Go.Proofs.YtapcgokcfmklbaaDoor
