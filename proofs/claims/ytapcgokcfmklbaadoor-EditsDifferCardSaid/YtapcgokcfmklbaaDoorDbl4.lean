/-
  A quotient of singles by way of 64 bits is the quotient at once. No program in sight. Conditions: as each theorem says.
-/
import Derived.Test.YtapcgokcfmklbaaDoorDbl3
namespace Go.Proofs.YtapcgokcfmklbaaDoor
open Go Go.RowKit

theorem read_exact (neg : Bool) {m : Nat} {p : Int} (h : m ≠ 0) (hl : m.log2 ≤ 52) (hlo : -1022 ≤ p + m.log2) (hhi : p + m.log2 ≤ 1000) :
    Ieee.double.read (Ieee.double.nearest neg m p) = .number neg (m * 2 ^ (52 - m.log2)) (p - ((52 - m.log2 : Nat) : Int)) := by
  obtain ⟨E, hE⟩ : ∃ E, p + m.log2 = E := ⟨_, rfl⟩
  have f1 : Ieee.double.fractionBits = 52 := rfl
  have f2 : Ieee.double.leastPlace = -1074 := by decide
  have f3 : Ieee.double.binade = 4503599627370496 := by decide
  have f4 : Ieee.double.infRung = 9218868437227405312 := by decide
  have f5 : Ieee.double.signWeight = 9223372036854775808 := by decide
  have hD : max (p + m.log2 - Ieee.double.fractionBits) Ieee.double.leastPlace = E - 52 := by rw [f1, f2, hE]; omega
  obtain ⟨K, hK⟩ : ∃ K, m * 2 ^ (52 - m.log2) = K := ⟨_, rfl⟩
  have h2 : K ≠ 0 := by rw [← hK]; exact Nat.mul_ne_zero h (Nat.ne_of_gt (Nat.two_pow_pos _))
  have h4 : K.log2 = 52 := by rw [← hK, log2_up h]; omega
  have h5 := Nat.log2_self_le h2
  have h6 : K < 2 ^ (K.log2 + 1) := Nat.lt_log2_self
  rw [h4] at h5 h6
  have c52 : (2 : Nat) ^ 52 = 4503599627370496 := by decide
  have c53 : (2 : Nat) ^ (52 + 1) = 9007199254740992 := by decide
  rw [c52] at h5
  rw [c53] at h6
  have hnear := nearest_rnd Ieee.double neg h hD
  have e1 : (p - (E - 52)).toNat = 52 - m.log2 := by omega
  have e2 : (E - 52 - p).toNat = 0 := by omega
  rw [e1, e2, rnd_zero, hK, f2, f3, f4] at hnear
  have hr : (E - 52 - -1074).toNat * 4503599627370496 + K < 9218868437227405312 := by omega
  rw [Nat.min_eq_left (by omega)] at hnear
  rw [hnear, hK]
  obtain ⟨R, hR⟩ : ∃ R, (E - 52 - -1074).toNat * 4503599627370496 + K = R := ⟨_, rfl⟩
  rw [hR] at hr ⊢
  have hw1 : (Ieee.double.word neg R / 9223372036854775808 % 2 == 1) = neg := by
    unfold Ieee.Format.word
    rw [f5]
    cases neg
    · simp only [Bool.false_eq_true, if_false]
      rw [Nat.div_eq_of_lt (by omega)]; rfl
    · simp only [if_true]
      rw [show (9223372036854775808 + R) / 9223372036854775808 = 1 by omega]; rfl
  have hw2 : Ieee.double.word neg R % 9223372036854775808 = R := by
    unfold Ieee.Format.word
    rw [f5]
    cases neg
    · simp only [Bool.false_eq_true, if_false]; omega
    · simp only [if_true]; omega
  unfold Ieee.Format.read
  simp only [f2, f3, f4, f5]
  rw [hw1, hw2]
  obtain ⟨u, hu⟩ : ∃ u : Nat, (E - 52 - -1074).toNat = u := ⟨_, rfl⟩
  rw [hu] at hR
  have hEu : (u : Int) = E - 52 + 1074 := by omega
  rw [if_neg (show ¬ R < 4503599627370496 by omega), if_pos (by omega)]
  congr 1
  · omega
  · omega
theorem stk_scale {A n k : Nat} : stk (A * 2 ^ k) (n * 2 ^ k) = stk A n := by
  have hk : 0 < 2 ^ k := Nat.two_pow_pos k
  unfold stk
  rw [Nat.mul_div_mul_right _ _ hk, Nat.mul_mod_mul_right]
  congr 1
  by_cases h : A % n = 0
  · rw [h, Nat.zero_mul]
  · rw [if_neg h, if_neg (Nat.mul_ne_zero h (Nat.ne_of_gt hk))]
theorem quo_form (d : Nat) (s t : Bool) (m n : Nat) (i j : Int) (hn : n ≠ 0) : (Ieee.Datum.number s m i).quotient d (.number t n j) = some (.number (s ^^ t) (stk (m * 2 ^ (d + n.log2 - m.log2)) n) (i - j - ((d + n.log2 - m.log2 : Nat) : Int) - 1)) := by
  unfold Ieee.Datum.quotient stk
  simp only
  rw [if_neg hn, Nat.shiftLeft_eq]
  congr 3
  by_cases h : m * 2 ^ (d + n.log2 - m.log2) % n = 0
  · rw [if_pos h, h]; rfl
  · rw [if_neg h]
    have : (m * 2 ^ (d + n.log2 - m.log2) % n != 0) = true := bne_iff_ne.2 h
    rw [this]; rfl
theorem single_div {x y : Nat} {s t : Bool} {m n : Nat} {i j : Int} (hx : Ieee.single.read x = .number s m i) (hy : Ieee.single.read y = .number t n j) (hn : n ≠ 0) :
    Ieee.single.div x y = some (Ieee.single.nearest (s ^^ t) (stk (m * 2 ^ (25 + n.log2 - m.log2)) n) (i - j - ((25 + n.log2 - m.log2 : Nat) : Int) - 1)) := by
  have h := quo_form (Ieee.single.fractionBits + 2) s t m n i j hn
  have e : Ieee.single.fractionBits + 2 = 25 := rfl
  rw [e] at h
  unfold Ieee.Format.div
  rw [hx, hy, e, h, Option.map_some]
  rfl
theorem double_div {x y : Nat} {s t : Bool} {m n : Nat} {i j : Int} (hx : Ieee.double.read x = .number s m i) (hy : Ieee.double.read y = .number t n j) (hn : n ≠ 0) :
    Ieee.double.div x y = some (Ieee.double.nearest (s ^^ t) (stk (m * 2 ^ (54 + n.log2 - m.log2)) n) (i - j - ((54 + n.log2 - m.log2 : Nat) : Int) - 1)) := by
  have h := quo_form (Ieee.double.fractionBits + 2) s t m n i j hn
  have e : Ieee.double.fractionBits + 2 = 54 := rfl
  rw [e] at h
  unfold Ieee.Format.div
  rw [hx, hy, e, h, Option.map_some]
  rfl
theorem f32_f64 {x : Nat} {s s2 : Bool} {m m2 : Nat} {i i2 : Int} (hx : Ieee.single.read x = .number s m i) (h2 : Ieee.double.read (Ieee.double.nearest s m i) = .number s2 m2 i2) : floatToFloatBits .f32 x .f64 = some (Ieee.double.nearest s m i) := by
  unfold floatToFloatBits
  rw [if_neg (by decide)]
  have e : FloatKind.f32.decode x = .number s m i := hx
  rw [e]
  simp only
  have e2 : FloatKind.f64.encode (.number s m i) = Ieee.double.nearest s m i := rfl
  have e3 : FloatKind.f64.decode (Ieee.double.nearest s m i) = .number s2 m2 i2 := h2
  rw [e2, e3]
  rfl
theorem f64_f32 {z r : Nat} {s : Bool} {m : Nat} {i : Int} (hz : Ieee.double.read z = .number s m i) (hr : Ieee.single.nearest s m i = r) (hf : (Ieee.single.read r).isInfinity = false) : floatToFloatBits .f64 z .f32 = some r := by
  unfold floatToFloatBits
  rw [if_neg (by decide)]
  have e : FloatKind.f64.decode z = .number s m i := hz
  rw [e]
  simp only
  have e2 : FloatKind.f32.encode (.number s m i) = r := hr
  have e3 : (FloatKind.f32.decode r).isInfinity = false := hf
  rw [e2, e3]
  rfl
theorem quo_double {x y r : Nat} {s t : Bool} {m n : Nat} {i j : Int} (hx : Ieee.single.read x = .number s m i) (hy : Ieee.single.read y = .number t n j) (hm0 : m ≠ 0) (hn0 : n ≠ 0)
    (hr : fop .quo x y = some r) (hfin : (Ieee.single.read r).isInfinity = false) :
    ∃ X Y Z, floatToFloatBits .f32 x .f64 = some X ∧ floatToFloatBits .f32 y .f64 = some Y ∧ Ieee.double.div X Y = some Z ∧ floatToFloatBits .f64 Z .f32 = some r := by
  have hbx := num_bd hx
  have hby := num_bd hy
  have c24 : (2 : Nat) ^ 24 = 16777216 := by decide
  have hlm : m.log2 ≤ 23 := Nat.le_of_lt_succ ((Nat.log2_lt hm0).2 (by rw [c24]; omega))
  have hln : n.log2 ≤ 23 := Nat.le_of_lt_succ ((Nat.log2_lt hn0).2 (by rw [c24]; omega))
  have hn1 : 0 < n := Nat.pos_of_ne_zero hn0
  obtain ⟨a, ha⟩ : ∃ a, m.log2 = a := ⟨_, rfl⟩
  obtain ⟨b, hb⟩ : ∃ b, n.log2 = b := ⟨_, rfl⟩
  rw [ha] at hlm
  rw [hb] at hln
  -- the single quotient
  obtain ⟨e1, he1⟩ : ∃ e1, 25 + b - a = e1 := ⟨_, rfl⟩
  have hr2 : r = Ieee.single.nearest (s ^^ t) (stk (m * 2 ^ e1) n) (i - j - (e1 : Int) - 1) := by
    have h1 : fop .quo x y = some (Ieee.single.nearest (s ^^ t) (stk (m * 2 ^ e1) n) (i - j - (e1 : Int) - 1)) := by
      have h0 := single_div hx hy hn0
      rw [ha, hb, he1] at h0
      exact h0
    rw [h1] at hr
    exact (Option.some.inj hr).symm
  -- its size
  have hm1 := Nat.log2_self_le hm0
  have hm2 : m < 2 ^ (m.log2 + 1) := Nat.lt_log2_self
  have hnn1 := Nat.log2_self_le hn0
  have hnn2 : n < 2 ^ (n.log2 + 1) := Nat.lt_log2_self
  rw [ha] at hm1 hm2
  rw [hb] at hnn1 hnn2
  have hX1 : 2 ^ 24 * n ≤ m * 2 ^ e1 := by
    have h1 : 2 ^ a * 2 ^ e1 ≤ m * 2 ^ e1 := Nat.mul_le_mul_right _ hm1
    rw [← Nat.pow_add, show a + e1 = 24 + (b + 1) by omega, Nat.pow_add] at h1
    have h2 : 2 ^ 24 * n ≤ 2 ^ 24 * 2 ^ (b + 1) := Nat.mul_le_mul_left _ (Nat.le_of_lt hnn2)
    exact Nat.le_trans h2 h1
  have hX2 : m * 2 ^ e1 < 2 ^ 26 * n := by
    have h1 : m * 2 ^ e1 < 2 ^ (a + 1) * 2 ^ e1 := Nat.mul_lt_mul_of_pos_right hm2 (Nat.two_pow_pos _)
    rw [← Nat.pow_add, show a + 1 + e1 = 26 + b by omega, Nat.pow_add] at h1
    have h2 : 2 ^ 26 * 2 ^ b ≤ 2 ^ 26 * n := Nat.mul_le_mul_left _ hnn1
    exact Nat.lt_of_lt_of_le h1 h2
  have hQ1 : 2 ^ 24 ≤ m * 2 ^ e1 / n := (Nat.le_div_iff_mul_le hn1).2 hX1
  have hQ2 : m * 2 ^ e1 / n < 2 ^ 26 := (Nat.div_lt_iff_lt_mul hn1).2 hX2
  have hs12 : 2 * (m * 2 ^ e1 / n) ≤ stk (m * 2 ^ e1) n ∧ stk (m * 2 ^ e1) n ≤ 2 * (m * 2 ^ e1 / n) + 1 := by unfold stk; split <;> omega
  have c26 : (2 : Nat) ^ 26 = 67108864 := by decide
  have c25 : (2 : Nat) ^ 25 = 33554432 := by decide
  have c27 : (2 : Nat) ^ 27 = 134217728 := by decide
  rw [c24] at hQ1
  rw [c26] at hQ2
  have hne1 : stk (m * 2 ^ e1) n ≠ 0 := by omega
  obtain ⟨l, hl⟩ : ∃ l, (stk (m * 2 ^ e1) n).log2 = l := ⟨_, rfl⟩
  have hl12 : l = 25 ∨ l = 26 := by
    have h1 : 25 ≤ l := by rw [← hl]; exact (Nat.le_log2 hne1).2 (by rw [c25]; omega)
    have h2 : l < 27 := by rw [← hl]; exact (Nat.log2_lt hne1).2 (by rw [c27]; omega)
    omega
  obtain ⟨hl2, hne2⟩ := stk_log (k := 29) hn1 hl (by omega)
  -- the double operands and quotient
  have rx := read_exact s (p := i) hm0 (by omega) (by omega) (by omega)
  have ry := read_exact t (p := j) hn0 (by omega) (by omega) (by omega)
  rw [ha] at rx
  rw [hb] at ry
  have hm20 : m * 2 ^ (52 - a) ≠ 0 := Nat.mul_ne_zero hm0 (Nat.ne_of_gt (Nat.two_pow_pos _))
  have hn20 : n * 2 ^ (52 - b) ≠ 0 := Nat.mul_ne_zero hn0 (Nat.ne_of_gt (Nat.two_pow_pos _))
  have lm2 : (m * 2 ^ (52 - a)).log2 = 52 := by rw [log2_up hm0]; omega
  have ln2 : (n * 2 ^ (52 - b)).log2 = 52 := by rw [log2_up hn0]; omega
  have hmag : stk (m * 2 ^ (52 - a) * 2 ^ 54) (n * 2 ^ (52 - b)) = stk (m * 2 ^ e1 * 2 ^ 29) n := by
    have : m * 2 ^ (52 - a) * 2 ^ 54 = m * 2 ^ e1 * 2 ^ 29 * 2 ^ (52 - b) := by
      rw [Nat.mul_assoc, ← Nat.pow_add, Nat.mul_assoc, Nat.mul_assoc, ← Nat.pow_add, ← Nat.pow_add]
      congr 2; omega
    rw [this, stk_scale]
  obtain ⟨p2, hp2⟩ : ∃ p2 : Int, i - ((52 - a : Nat) : Int) - (j - ((52 - b : Nat) : Int)) - ((54 : Nat) : Int) - 1 = p2 := ⟨_, rfl⟩
  have hdiv : Ieee.double.div (Ieee.double.nearest s m i) (Ieee.double.nearest t n j) = some (Ieee.double.nearest (s ^^ t) (stk (m * 2 ^ e1 * 2 ^ 29) n) p2) := by
    have h0 := double_div rx ry hn20
    rw [lm2, ln2, show 54 + 52 - 52 = 54 from rfl, hmag, hp2] at h0
    exact h0
  have hX3 : m * 2 ^ e1 * 2 ^ 29 = m * 2 ^ (e1 + 29) := by rw [Nat.mul_assoc, ← Nat.pow_add]
  obtain ⟨m', p', k1, k2, k3⟩ := dbl_round (s ^^ t) (m := stk (m * 2 ^ e1 * 2 ^ 29) n) (p := p2) hne2 (by rw [hl2]; omega) (by rw [hl2]; omega) (fun h52 G hG hK => by
    rw [hl2] at hK hG ⊢
    rw [hX3] at hK ⊢
    exact quo_H hn1 (by rw [c24]; omega) (by omega) (by rw [← hX3]; exact hl2) (by omega) (by rw [← hX3]; exact hne2) (by omega) hK)
  -- both rounded at once
  have hsame : Ieee.single.nearest (s ^^ t) (stk (m * 2 ^ e1 * 2 ^ 29) n) p2 = r := by
    have g1 : Ieee.single.fractionBits = 23 := rfl
    have g2 : Ieee.single.leastPlace = -149 := by decide
    obtain ⟨p1, hp1⟩ : ∃ p1 : Int, i - j - (e1 : Int) - 1 = p1 := ⟨_, rfl⟩
    rw [hp1] at hr2
    obtain ⟨L, hL⟩ : ∃ L : Int, max (p1 + l - 23) (-149) = L := ⟨_, rfl⟩
    rw [hr2, nearest_rnd Ieee.single _ hne1 (L := L) (by rw [g1, g2, hl]; exact hL), nearest_rnd Ieee.single _ hne2 (L := L) (by rw [g1, g2, hl2, ← hL]; congr 1; omega)]
    have q1 : (p1 - L).toNat = 0 := by omega
    have q2 : (p2 - L).toNat = 0 := by omega
    obtain ⟨u, hu⟩ : ∃ u, (L - p1).toNat = u := ⟨_, rfl⟩
    have q3 : (L - p2).toNat = u + 29 := by omega
    rw [q1, q2, q3, hu, Nat.pow_zero, Nat.mul_one, Nat.mul_one, stk_rnd hn1 (by omega), stk_rnd hn1 (by omega), RR_up _ _ _ _ (by omega)]
  rw [hsame] at k3
  exact ⟨_, _, _, f32_f64 hx rx, f32_f64 hy ry, hdiv, f64_f32 k1 k3 hfin⟩
end Go.Proofs.YtapcgokcfmklbaaDoor
