/-
  Quotients of singles by way of 64 bits. No program in sight. Conditions: as each theorem says.
-/
import Derived.Test.YtapcgokcfmklbaaDoorDbl
namespace Go.Proofs.YtapcgokcfmklbaaDoor
open Go Go.RowKit

/-- a quotient's digits, and one more that tells whether anything is left over -/
def stk (N n : Nat) : Nat := 2 * (N / n) + (if N % n = 0 then 0 else 1)
/-- N / (n * 2^(a-1)) to the nearest, ties to even -/
def RR (N n a : Nat) : Nat := N / (n * 2 ^ (a - 1)) + (if n * 2 ^ (a - 1) < 2 * (N % (n * 2 ^ (a - 1))) ∨ (n * 2 ^ (a - 1) = 2 * (N % (n * 2 ^ (a - 1))) ∧ N / (n * 2 ^ (a - 1)) % 2 = 1) then 1 else 0)
theorem stk_rnd {N n a : Nat} (hn : 0 < n) (ha : 2 ≤ a) : rnd (stk N n) a = RR N n a := by
  obtain ⟨b, rfl⟩ : ∃ b, a = b + 2 := ⟨a - 2, by omega⟩
  have hP : 2 ^ (b + 1) = 2 * 2 ^ b := by rw [Nat.pow_succ, Nat.mul_comm]
  have hP2 : 2 ^ (b + 2) = 2 * 2 ^ (b + 1) := by rw [Nat.pow_succ, Nat.mul_comm]
  have hb : 0 < 2 ^ b := Nat.two_pow_pos b
  obtain ⟨Q, hQ⟩ : ∃ Q, N / n = Q := ⟨_, rfl⟩
  obtain ⟨ρ, hρ⟩ : ∃ ρ, N % n = ρ := ⟨_, rfl⟩
  have hρn : ρ < n := by rw [← hρ]; exact Nat.mod_lt _ hn
  have hN : N = n * Q + ρ := by rw [← hQ, ← hρ]; exact (Nat.div_add_mod N n).symm
  obtain ⟨q, hq⟩ : ∃ q, Q / 2 ^ (b + 1) = q := ⟨_, rfl⟩
  obtain ⟨T, hT⟩ : ∃ T, Q % 2 ^ (b + 1) = T := ⟨_, rfl⟩
  have hTl : T < 2 ^ (b + 1) := by rw [← hT]; exact Nat.mod_lt _ (Nat.two_pow_pos _)
  have hQe : Q = 2 ^ (b + 1) * q + T := by rw [← hq, ← hT]; exact (Nat.div_add_mod Q _).symm
  obtain ⟨s, hs⟩ : ∃ s, (if N % n = 0 then 0 else 1 : Nat) = s := ⟨_, rfl⟩
  have hs1 : s ≤ 1 := by rw [← hs]; split <;> omega
  have hst : stk N n = 2 * Q + s := by unfold stk; rw [hQ, hs]
  -- the left side
  have e1 : (2 * Q + s) / 2 ^ (b + 2) = q := by
    rw [hP2, ← Nat.div_div_eq_div_mul, show (2 * Q + s) / 2 = Q by omega, hq]
  have e2 : (2 * Q + s) % 2 ^ (b + 2) = 2 * T + s := by
    have h1 := Nat.div_add_mod (2 * Q + s) (2 ^ (b + 2))
    rw [e1, hP2] at h1
    rw [hP2]
    have h2 : 2 * 2 ^ (b + 1) * q = 2 * (2 ^ (b + 1) * q) := Nat.mul_assoc ..
    omega
  -- the right side
  have hM : n * 2 ^ (b + 2 - 1) = n * 2 ^ (b + 1) := by congr 2
  have e3 : N / (n * 2 ^ (b + 1)) = q := by rw [← Nat.div_div_eq_div_mul, hQ, hq]
  have e4 : N % (n * 2 ^ (b + 1)) = n * T + ρ := by
    have h1 := Nat.div_add_mod N (n * 2 ^ (b + 1))
    rw [e3] at h1
    have h2 : n * 2 ^ (b + 1) * q + n * T = n * Q := by rw [hQe, Nat.mul_add, Nat.mul_assoc]
    omega
  unfold rnd RR
  rw [hst, e1, e2, hM, e3, e4, hP2]
  congr 1
  have key : (2 * 2 ^ (b + 1) < 2 * (2 * T + s) ↔ n * 2 ^ (b + 1) < 2 * (n * T + ρ)) ∧ (2 * 2 ^ (b + 1) = 2 * (2 * T + s) ↔ n * 2 ^ (b + 1) = 2 * (n * T + ρ)) := by
    have hmul : 2 * (n * T) = n * (2 * T) := by rw [Nat.mul_left_comm]
    by_cases h0 : ρ = 0
    · have hs0 : s = 0 := by rw [← hs, hρ, h0]; rfl
      subst h0 hs0
      simp only [Nat.add_zero]
      rw [hmul]
      constructor
      · rw [Nat.mul_lt_mul_left hn]; omega
      · rw [Nat.mul_right_inj (Nat.ne_of_gt hn)]; omega
    · have hs1' : s = 1 := by rw [← hs, hρ, if_neg h0]
      subst hs1'
      by_cases hc : 2 ^ (b + 1) ≤ 2 * T
      · have h3 := Nat.mul_le_mul_left n hc
        rw [← hmul] at h3
        exact ⟨by constructor <;> intro _ <;> omega, by constructor <;> intro _ <;> omega⟩
      · have h3 := Nat.mul_le_mul_left n (show 2 * T + 2 ≤ 2 ^ (b + 1) by omega)
        rw [Nat.mul_add, ← hmul] at h3
        exact ⟨by constructor <;> intro _ <;> omega, by constructor <;> intro _ <;> omega⟩
  simp only [key.1, key.2]
theorem RR_up (N n a k : Nat) (ha : 1 ≤ a) : RR (N * 2 ^ k) n (a + k) = RR N n a := by
  unfold RR
  have hk : 0 < 2 ^ k := Nat.two_pow_pos k
  have hM : n * 2 ^ (a + k - 1) = n * 2 ^ (a - 1) * 2 ^ k := by rw [Nat.mul_assoc, ← Nat.pow_add]; congr 2; omega
  rw [hM, Nat.mul_div_mul_right _ _ hk, Nat.mul_mod_mul_right]
  have h1 : n * 2 ^ (a - 1) * 2 ^ k < 2 * (N % (n * 2 ^ (a - 1)) * 2 ^ k) ↔ n * 2 ^ (a - 1) < 2 * (N % (n * 2 ^ (a - 1))) := by
    rw [← Nat.mul_assoc 2]; exact Nat.mul_lt_mul_right hk
  have h2 : n * 2 ^ (a - 1) * 2 ^ k = 2 * (N % (n * 2 ^ (a - 1)) * 2 ^ k) ↔ n * 2 ^ (a - 1) = 2 * (N % (n * 2 ^ (a - 1))) := by
    rw [← Nat.mul_assoc 2]; exact Nat.mul_right_cancel_iff hk ..
  simp only [h1, h2]
theorem RR_near {N n a : Nat} (hn : 0 < n) : 2 * N ≤ 2 * (RR N n a * (n * 2 ^ (a - 1))) + n * 2 ^ (a - 1) ∧ 2 * (RR N n a * (n * 2 ^ (a - 1))) ≤ 2 * N + n * 2 ^ (a - 1) := by
  unfold RR
  have hM0 : 0 < n * 2 ^ (a - 1) := Nat.mul_pos hn (Nat.two_pow_pos _)
  generalize n * 2 ^ (a - 1) = M at *
  have h1 := Nat.div_add_mod N M
  rw [Nat.mul_comm] at h1
  split
  · rename_i hc
    rw [Nat.add_mul, Nat.one_mul]
    have := Nat.mod_lt N hM0
    omega
  · rename_i hc
    have : ¬ M < 2 * (N % M) := fun h => hc (.inl h)
    rw [Nat.add_zero]; omega
theorem stk_log {X n l k : Nat} (hn : 0 < n) (hl : (stk X n).log2 = l) (h0 : 1 ≤ l) : (stk (X * 2 ^ k) n).log2 = l + k ∧ stk (X * 2 ^ k) n ≠ 0 := by
  have hk := Nat.two_pow_pos k
  have hne : stk X n ≠ 0 := fun e => by rw [e] at hl; have : (0 : Nat).log2 = 0 := by decide
                                        omega
  have h1 := Nat.log2_self_le hne
  have h2 : stk X n < 2 ^ ((stk X n).log2 + 1) := Nat.lt_log2_self
  rw [hl] at h1 h2
  have hb : ∀ Y : Nat, 2 * (Y / n) ≤ stk Y n ∧ stk Y n ≤ 2 * (Y / n) + 1 := by intro Y; unfold stk; split <;> omega
  have h3 := hb X
  have h4 := hb (X * 2 ^ k)
  obtain ⟨u, rfl⟩ : ∃ u, l = u + 1 := ⟨l - 1, by omega⟩
  have e1 : 2 ^ (u + 1) = 2 * 2 ^ u := by rw [Nat.pow_succ, Nat.mul_comm]
  have e2 : 2 ^ (u + 1 + 1) = 2 * 2 ^ (u + 1) := by rw [Nat.pow_succ, Nat.mul_comm]
  have q1 : 2 ^ u ≤ X / n := by omega
  have q2 : X / n + 1 ≤ 2 ^ (u + 1) := by omega
  have d1 : X / n * 2 ^ k ≤ X * 2 ^ k / n := by
    rw [Nat.le_div_iff_mul_le hn]
    have := Nat.div_mul_le_self X n
    calc X / n * 2 ^ k * n = X / n * n * 2 ^ k := by rw [Nat.mul_right_comm]
      _ ≤ X * 2 ^ k := Nat.mul_le_mul_right _ this
  have d2 : X * 2 ^ k / n < (X / n + 1) * 2 ^ k := by
    rw [Nat.div_lt_iff_lt_mul hn]
    have h5 := Nat.lt_div_mul_add (a := X) hn
    calc X * 2 ^ k < (X / n * n + n) * 2 ^ k := Nat.mul_lt_mul_of_pos_right h5 hk
      _ = (X / n + 1) * 2 ^ k * n := by rw [Nat.mul_right_comm (X / n + 1), Nat.add_mul (X / n) 1 n, Nat.one_mul]
  have p1 : 2 ^ u * 2 ^ k ≤ X / n * 2 ^ k := Nat.mul_le_mul_right _ q1
  have p2 : (X / n + 1) * 2 ^ k ≤ 2 ^ (u + 1) * 2 ^ k := Nat.mul_le_mul_right _ q2
  rw [← Nat.pow_add] at p1 p2
  have e3 : 2 ^ (u + 1 + k) = 2 * 2 ^ (u + k) := by rw [show u + 1 + k = u + k + 1 by omega, Nat.pow_succ, Nat.mul_comm]
  have e4 : 2 ^ (u + 1 + k + 1) = 2 * 2 ^ (u + 1 + k) := by rw [Nat.pow_succ, Nat.mul_comm]
  have hne2 : stk (X * 2 ^ k) n ≠ 0 := by
    have := Nat.two_pow_pos (u + k)
    omega
  refine ⟨Nat.le_antisymm (Nat.le_of_lt_succ ((Nat.log2_lt hne2).2 ?_)) ((Nat.le_log2 hne2).2 ?_), hne2⟩
  · show _ < 2 ^ (u + 1 + k + 1)
    omega
  · omega
/-- no quotient comes, in 64 bits, to a middle that it is not -/
theorem quo_H {m n e l : Nat} (hn0 : 0 < n) (hn : n < 2 ^ 24) (hx : 31 ≤ e) (hl : (stk (m * 2 ^ e) n).log2 = l) (hl2 : l = 54 ∨ l = 55) (h0 : stk (m * 2 ^ e) n ≠ 0) {G : Nat} (hG : 29 ≤ G)
    (hK : rnd (stk (m * 2 ^ e) n) (l - 52) % 2 ^ G = 2 ^ (G - 1)) : stk (m * 2 ^ e) n % 2 ^ (l - 52) = 0 := by
  obtain ⟨a, ha⟩ : ∃ a, l - 52 = a := ⟨_, rfl⟩
  have ha2 : a = 2 ∨ a = 3 := by omega
  rw [ha] at hK ⊢
  rw [stk_rnd hn0 (by omega)] at hK
  have hnear := RR_near (N := m * 2 ^ e) (a := a) hn0
  obtain ⟨K, hKv⟩ : ∃ K, RR (m * 2 ^ e) n a = K := ⟨_, rfl⟩
  rw [hKv] at hK hnear
  obtain ⟨q, hq⟩ : ∃ q, K = 2 ^ 28 * q := by
    refine ⟨K / 2 ^ 28, ?_⟩
    have h1 := Nat.div_add_mod K (2 ^ 28)
    have h2 : K % 2 ^ 28 = 0 := by
      have d1 : 2 ^ 28 ∣ K % 2 ^ G := by rw [hK]; exact Nat.pow_dvd_pow 2 (by omega)
      have d2 : 2 ^ 28 ∣ K := by
        have h3 := Nat.div_add_mod K (2 ^ G)
        rw [← h3]
        exact Nat.dvd_add (Nat.dvd_trans (Nat.pow_dvd_pow 2 (by omega)) (Nat.dvd_mul_right ..)) d1
      exact Nat.mod_eq_zero_of_dvd d2
    omega
  obtain ⟨f, rfl⟩ : ∃ f, e = f + 31 := ⟨e - 31, by omega⟩
  have eX : m * 2 ^ (f + 31) = 2 ^ 29 * (m * 2 ^ f * 4) := by
    rw [Nat.pow_add, show (2 : Nat) ^ 31 = 4 * 2 ^ 29 by decide]
    rw [← Nat.mul_assoc, ← Nat.mul_assoc, Nat.mul_comm (2 ^ 29)]
  obtain ⟨c, hc⟩ : ∃ c : Nat, 2 ^ (a - 1) = 2 * c ∧ c ≤ 2 := by
    rcases ha2 with h | h <;> subst h
    · exact ⟨1, by decide, by decide⟩
    · exact ⟨2, by decide, by decide⟩
  have eM : K * (n * 2 ^ (a - 1)) = 2 ^ 29 * (q * (n * c)) := by
    rw [hq, hc.1, show (2 : Nat) ^ 29 = 2 ^ 28 * 2 by decide, Nat.mul_left_comm n 2 c, Nat.mul_assoc, Nat.mul_assoc, Nat.mul_left_comm q 2]
  have hMb : n * 2 ^ (a - 1) < 2 ^ 27 := by
    rw [hc.1]
    have h1 : n * (2 * c) ≤ n * 4 := Nat.mul_le_mul_left n (by omega)
    have h2 : (2 : Nat) ^ 24 = 16777216 := by decide
    have h3 : (2 : Nat) ^ 27 = 134217728 := by decide
    omega
  have hEq : m * 2 ^ (f + 31) = K * (n * 2 ^ (a - 1)) := by
    rw [eM, eX] at hnear
    rw [eX, eM]
    have h3 : (2 : Nat) ^ 27 = 134217728 := by decide
    have h4 : (2 : Nat) ^ 29 = 536870912 := by decide
    rw [h4] at hnear ⊢
    rw [h3] at hMb
    generalize m * 2 ^ f * 4 = x at *
    generalize q * (n * c) = y at *
    omega
  have e9 : stk (m * 2 ^ (f + 31)) n = K * 2 ^ a := by
    unfold stk
    have h1 : m * 2 ^ (f + 31) = K * 2 ^ (a - 1) * n := by rw [hEq, Nat.mul_assoc, Nat.mul_comm n]
    rw [h1, Nat.mul_div_cancel _ hn0, Nat.mul_mod_left, if_pos rfl, Nat.add_zero, show a = a - 1 + 1 by omega, Nat.pow_succ, Nat.add_sub_cancel]
    rw [Nat.mul_comm 2, Nat.mul_assoc]
  rw [e9]
  exact Nat.mul_mod_left ..
end Go.Proofs.YtapcgokcfmklbaaDoor
