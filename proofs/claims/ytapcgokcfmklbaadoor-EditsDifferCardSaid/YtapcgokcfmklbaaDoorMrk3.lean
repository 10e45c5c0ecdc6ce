/-
  Where two films differ: shares compared; the reference's marks. No program in sight. Conditions: none.
-/
import Derived.Test.YtapcgokcfmklbaaDoorMrk2
import Derived.Test.YtapcgokcfmklbaaDoorMatte
namespace Go.Proofs.YtapcgokcfmklbaaDoor
open Go Go.RowKit

theorem pos_read {b : Nat} (h : b < 2139095040) : Ieee.single.read b = if b < 8388608 then .number false b (-149) else .number false (8388608 + b % 8388608) (-149 + ((b / 8388608 - 1 : Nat) : Int)) := by
  have e1 : Ieee.single.signWeight = 2147483648 := rfl
  have e2 : Ieee.single.binade = 8388608 := rfl
  have e3 : Ieee.single.infRung = 2139095040 := rfl
  have e4 : Ieee.single.leastPlace = -149 := by decide
  unfold Ieee.Format.read
  simp only [e1, e2, e3, e4]
  have h1 : b / 2147483648 = 0 := Nat.div_eq_of_lt (by omega)
  have h2 : b % 2147483648 = b := Nat.mod_eq_of_lt (by omega)
  rw [h1, h2]
  by_cases h3 : b < 8388608
  · rw [if_pos h3, if_pos h3]; rfl
  · rw [if_neg h3, if_neg h3, if_pos h]; rfl
theorem pos_fval {b : Nat} (h : b < 2139095040) : numB b = true ∧ fval b = ((if b < 8388608 then b else (8388608 + b % 8388608) * 2 ^ (b / 8388608 - 1) : Nat) : Int) := by
  have hr := pos_read h
  by_cases h3 : b < 8388608
  · rw [if_pos h3] at hr
    refine ⟨by unfold numB; rw [hr], ?_⟩
    unfold fval
    rw [hr, if_pos h3]
    simp [Ieee.signed]
  · rw [if_neg h3] at hr
    refine ⟨by unfold numB; rw [hr], ?_⟩
    unfold fval
    rw [hr, if_neg h3]
    have e : (-149 + ((b / 8388608 - 1 : Nat) : Int) + 149).toNat = b / 8388608 - 1 := by omega
    simp only [Ieee.signed, e, Nat.shiftLeft_eq]
    rfl
theorem pw22 {q : Nat} (h : 1 ≤ q) : 2 ^ (q + 22) = 8388608 * 2 ^ (q - 1) := by
  have e : (2 : Nat) ^ 23 = 8388608 := by decide
  rw [show q + 22 = 23 + (q - 1) by omega, Nat.pow_add, e]
theorem pw23 {q : Nat} (h : 1 ≤ q) : 2 ^ (q + 23) = 16777216 * 2 ^ (q - 1) := by
  have e : (2 : Nat) ^ 24 = 16777216 := by decide
  rw [show q + 23 = 24 + (q - 1) by omega, Nat.pow_add, e]
theorem key_in {q r : Nat} (h1 : 1 ≤ q) (h2 : r < 8388608) : 2 ^ (q + 22) ≤ (8388608 + r) * 2 ^ (q - 1) ∧ (8388608 + r) * 2 ^ (q - 1) < 2 ^ (q + 23) := by
  rw [pw22 h1, pw23 h1]
  exact ⟨Nat.mul_le_mul_right _ (Nat.le_add_right ..), Nat.mul_lt_mul_of_pos_right (by omega) (Nat.two_pow_pos _)⟩
theorem key_lo {q r x : Nat} (h1 : 1 ≤ q) (h2 : r < 8388608) (hx : x < 8388608) : x ≠ (8388608 + r) * 2 ^ (q - 1) := fun e => by
  have h3 := (key_in h1 h2).1
  have h4 : (2 : Nat) ^ 23 ≤ 2 ^ (q + 22) := Nat.pow_le_pow_right (by decide) (by omega)
  have h5 : (2 : Nat) ^ 23 = 8388608 := by decide
  omega
theorem key_q {q r p s : Nat} (h1 : 1 ≤ q) (h2 : r < 8388608) (h3 : 1 ≤ p) (h4 : s < 8388608) (h : (8388608 + r) * 2 ^ (q - 1) = (8388608 + s) * 2 ^ (p - 1)) : q = p ∧ r = s := by
  have ka := key_in h1 h2
  have kb := key_in h3 h4
  have hq : q = p := by
    rcases Nat.lt_trichotomy q p with hl | hl | hl
    · have : 2 ^ (q + 23) ≤ 2 ^ (p + 22) := Nat.pow_le_pow_right (by decide) (by omega)
      omega
    · exact hl
    · have : 2 ^ (p + 23) ≤ 2 ^ (q + 22) := Nat.pow_le_pow_right (by decide) (by omega)
      omega
  subst hq
  have := Nat.mul_right_cancel (Nat.two_pow_pos _) h
  exact ⟨rfl, by omega⟩
theorem pos_inj {a b : Nat} (ha : a < 2139095040) (hb : b < 2139095040) (h : fval a = fval b) : a = b := by
  rw [(pos_fval ha).2, (pos_fval hb).2] at h
  have h := Int.ofNat.inj h
  have da := Nat.div_add_mod a 8388608
  have db := Nat.div_add_mod b 8388608
  have ma : a % 8388608 < 8388608 := Nat.mod_lt _ (by decide)
  have mb : b % 8388608 < 8388608 := Nat.mod_lt _ (by decide)
  by_cases h1 : a < 8388608
  · rw [if_pos h1] at h
    by_cases h2 : b < 8388608
    · rw [if_pos h2] at h; exact h
    · rw [if_neg h2] at h
      exact absurd h (key_lo (by omega) mb h1)
  · rw [if_neg h1] at h
    by_cases h2 : b < 8388608
    · rw [if_pos h2] at h
      exact absurd h.symm (key_lo (by omega) ma h2)
    · rw [if_neg h2] at h
      obtain ⟨k1, k2⟩ := key_q (by omega) ma (by omega) mb h
      omega
theorem pos_eql {a b : Nat} (ha : a < 2139095040) (hb : b < 2139095040) : fcmpB .eql a b = decide (a = b) := by
  unfold fcmpB
  rw [order_fval (pos_fval ha).1 (pos_fval hb).1]
  by_cases e : a = b
  · subst e; rw [cmp_self, decide_eq_true rfl]; rfl
  · have h1 : fval a ≠ fval b := fun h => e (pos_inj ha hb h)
    rw [decide_eq_false e]
    rcases Int.lt_trichotomy (fval a) (fval b) with h | h | h
    · rw [Int.compare_eq_lt.2 h]; rfl
    · exact absurd h h1
    · rw [Int.compare_eq_gt.2 h]; rfl
theorem fdS_eq2 {s u : Sh} (h1 : s.share < 2139095040) (h2 : u.share < 2139095040) : allEq (fdS s) (fdS u) = decide (s = u) := by
  have h := pos_eql h1 h2
  rw [Bool.eq_iff_iff, decide_eq_true_eq]
  cases s; cases u
  simp only at h
  simp only [fdS, allEq, Fd.eq, h, Bool.and_eq_true, beq_iff_eq, Sh.mk.injEq, and_true, true_and, decide_eq_true_eq]
theorem share_pos {t : List UInt8} {r : Int} {l : List Ev} (hE : edE t r l = 0) (f : Int) : (atR l f).2.1.share < 2139095040 := by
  have := share_ok hE f
  omega
theorem alk_d {a b : List Ev} {m : Int} {i1 i2 : Nat} {s1 s2 : Sh} {e1 e2 : Int} (h1 : atR a m = (i1, s1, e1)) (h2 : atR b m = (i2, s2, e2)) (he : e1 = e2) (p1 : s1.share < 2139095040) (p2 : s2.share < 2139095040) : allEq (fdS s1) (fdS s2) = alk a b m := by
  unfold alk; rw [h1, h2, fdS_eq2 p1 p2]
  subst he
  by_cases e : s1 = s2
  · subst e; rw [decide_eq_true rfl, decide_eq_true rfl]
  · rw [decide_eq_false e, decide_eq_false (fun hh => e (by injection hh))]
theorem atR_err {l : List Ev} {f : Int} {i : Nat} {s : Sh} {e : Int} (h : atR l f = (i, s, e)) (he : e ≠ 0) : s = Sh.z ∧ e = 11 := by
  unfold atR at h
  split at h
  · injection h with _ h2; injection h2 with _ h3; exact absurd h3.symm he
  · injection h with _ h2; injection h2 with h3 h4; exact ⟨h3.symm, h4.symm⟩
theorem alk_n {a b : List Ev} {m : Int} {i1 i2 : Nat} {s1 s2 : Sh} {e1 e2 : Int} (h1 : atR a m = (i1, s1, e1)) (h2 : atR b m = (i2, s2, e2)) (he : e1 = e2) (hn : e1 ≠ 0) : true = alk a b m := by
  obtain ⟨k1, _⟩ := atR_err h1 hn
  obtain ⟨k2, _⟩ := atR_err h2 (he ▸ hn)
  unfold alk; rw [h1, h2, k1, k2, he]
  exact (decide_eq_true rfl).symm
theorem sd_lt {S : List Int} (h : S.Pairwise (· < ·)) (k : Nat) (hk : k + 1 < S.length) : S.getD k 0 < S.getD (k + 1) 0 := by
  rw [List.getD_eq_getElem?_getD, List.getD_eq_getElem?_getD, List.getElem?_eq_getElem (by omega), List.getElem?_eq_getElem hk]
  exact List.pairwise_iff_getElem.1 h k (k + 1) (by omega) hk (by omega)
theorem getD_mem {S : List Int} {k : Nat} (hk : k < S.length) : S.getD k 0 ∈ S := by
  rw [List.getD_eq_getElem?_getD, List.getElem?_eq_getElem hk]; exact List.getElem_mem _
/-- the last end -/
def enK (l : List Ev) (m : Int) : Nat → Int
  | 0 => m
  | k + 1 => max (enK l m k) (evEnd (l.getD k default))
def LS (a b : List Ev) : Nat → Int
  | 0 => 0
  | s + 1 => enK (T2 a b s) (LS a b s) (T2 a b s).length
end Go.Proofs.YtapcgokcfmklbaaDoor
