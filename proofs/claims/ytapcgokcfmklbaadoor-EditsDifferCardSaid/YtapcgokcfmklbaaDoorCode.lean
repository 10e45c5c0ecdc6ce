/-
  Plain law of time codes: errors, counting, printing, reading. No program in sight. Conditions: as each theorem says.
-/
import Derived.Test.YtapcgokcfmklbaaDoorStr
namespace Go.Proofs.YtapcgokcfmklbaaDoor
open Go Go.RowKit

/-- frames counted in a second, 0 where there is no such rate -/
def sec (r : Int) : Int := if r = 24 ∨ r = 25 ∨ r = 30 ∨ r = 48 ∨ r = 50 ∨ r = 60 then r else if r = 29 then 30 else 0
theorem sec_bd (r : Int) : sec r = 0 ∨ (24 ≤ sec r ∧ sec r ≤ 60) := by
  unfold sec
  split
  · omega
  · split <;> omega
theorem sec_cases {r : Int} (h : sec r ≠ 0) : r = 24 ∨ r = 25 ∨ r = 30 ∨ r = 48 ∨ r = 50 ∨ r = 60 ∨ r = 29 := by
  unfold sec at h
  split at h
  · omega
  · split at h
    · omega
    · omega
def codE (r h m s f : Int) : Int :=
  if sec r = 0 then 1 else if ¬ (0 ≤ h ∧ h ≤ 23 ∧ 0 ≤ m ∧ m ≤ 59 ∧ 0 ≤ s ∧ s ≤ 59 ∧ 0 ≤ f ∧ f < sec r) then 3 else if r = 29 ∧ m.tmod 10 ≠ 0 ∧ s = 0 ∧ f < 2 then 5 else 0
theorem codE_ok {r h m s f : Int} (e : codE r h m s f = 0) : sec r ≠ 0 ∧ 0 ≤ h ∧ h ≤ 23 ∧ 0 ≤ m ∧ m ≤ 59 ∧ 0 ≤ s ∧ s ≤ 59 ∧ 0 ≤ f ∧ f < sec r ∧ ¬ (r = 29 ∧ m.tmod 10 ≠ 0 ∧ s = 0 ∧ f < 2) := by
  unfold codE at e
  split at e
  · cases e
  · rename_i h1
    split at e
    · cases e
    · rename_i h2
      split at e
      · cases e
      · rename_i h3
        have h4 := Decidable.not_not.1 h2
        exact ⟨h1, h4.1, h4.2.1, h4.2.2.1, h4.2.2.2.1, h4.2.2.2.2.1, h4.2.2.2.2.2.1, h4.2.2.2.2.2.2.1, h4.2.2.2.2.2.2.2, h3⟩
theorem codE_1 {r h m s f : Int} (e : sec r = 0) : codE r h m s f = 1 := if_pos e
theorem codE_3 {r h m s f : Int} (e : sec r ≠ 0) (e2 : ¬ (0 ≤ h ∧ h ≤ 23 ∧ 0 ≤ m ∧ m ≤ 59 ∧ 0 ≤ s ∧ s ≤ 59 ∧ 0 ≤ f ∧ f < sec r)) : codE r h m s f = 3 := by unfold codE; rw [if_neg e, if_pos e2]
theorem codE_5 {r h m s f : Int} (e : sec r ≠ 0) (e2 : 0 ≤ h ∧ h ≤ 23 ∧ 0 ≤ m ∧ m ≤ 59 ∧ 0 ≤ s ∧ s ≤ 59 ∧ 0 ≤ f ∧ f < sec r) (e3 : r = 29 ∧ m.tmod 10 ≠ 0 ∧ s = 0 ∧ f < 2) : codE r h m s f = 5 := by unfold codE; rw [if_neg e, if_neg (Decidable.not_not.2 e2), if_pos e3]
theorem codE_0 {r h m s f : Int} (e : sec r ≠ 0) (e2 : 0 ≤ h ∧ h ≤ 23 ∧ 0 ≤ m ∧ m ≤ 59 ∧ 0 ≤ s ∧ s ≤ 59 ∧ 0 ≤ f ∧ f < sec r) (e3 : ¬ (r = 29 ∧ m.tmod 10 ≠ 0 ∧ s = 0 ∧ f < 2)) : codE r h m s f = 0 := by unfold codE; rw [if_neg e, if_neg (Decidable.not_not.2 e2), if_neg e3]
/-- the frames before a code -/
def frmN (r h m s f : Int) : Int := (60 * (60 * h + m) + s) * sec r + f - (if r = 29 then 2 * ((60 * h + m) - (60 * h + m) / 10) else 0)
def dayN (r : Int) : Int := if r = 29 then 2589408 else 86400 * sec r
/-- the count, the dropped codes with it, of the n-th frame of a day -/
def fulN (r n : Int) : Int := if r = 29 then 18000 * (n / 17982) + n % 17982 + 2 * (if 1800 ≤ n % 17982 then (n % 17982 - 1800) / 1798 + 1 else 0) else n
def cdH (r n : Int) : Int := fulN r n / sec r / 3600
def cdM (r n : Int) : Int := fulN r n / sec r / 60 % 60
def cdS (r n : Int) : Int := fulN r n / sec r % 60
def cdF (r n : Int) : Int := fulN r n % sec r
theorem mul_le_60 {x : Int} {r : Int} (h : sec r ≠ 0) (P : Int → Prop) (h24 : r = 24 → sec r = 24 → P 24) (h25 : r = 25 → sec r = 25 → P 25) (h30 : r = 30 → sec r = 30 → P 30) (h48 : r = 48 → sec r = 48 → P 48) (h50 : r = 50 → sec r = 50 → P 50) (h60 : r = 60 → sec r = 60 → P 60) (h29 : r = 29 → sec r = 30 → P 30) : P (sec r) := by
  have _ := x
  rcases sec_cases h with e | e | e | e | e | e | e <;> subst e
  · exact h24 rfl rfl
  · exact h25 rfl rfl
  · exact h30 rfl rfl
  · exact h48 rfl rfl
  · exact h50 rfl rfl
  · exact h60 rfl rfl
  · exact h29 rfl rfl
/-- the n-th frame of a day has a right code, which counts n -/
theorem code_of {r n : Int} (h : sec r ≠ 0) (h0 : 0 ≤ n) (h1 : n < dayN r) : codE r (cdH r n) (cdM r n) (cdS r n) (cdF r n) = 0 ∧ frmN r (cdH r n) (cdM r n) (cdS r n) (cdF r n) = n := by
  have key : ∀ (k N : Int), k = sec r → N = fulN r n → 0 ≤ N → N < 86400 * k → (24 ≤ k ∧ k ≤ 60) →
      (0 ≤ N / k / 3600 ∧ N / k / 3600 ≤ 23 ∧ 0 ≤ N / k / 60 % 60 ∧ N / k / 60 % 60 ≤ 59 ∧ 0 ≤ N / k % 60 ∧ N / k % 60 ≤ 59 ∧ 0 ≤ N % k ∧ N % k < k) ∧ (60 * (60 * (N / k / 3600) + N / k / 60 % 60) + N / k % 60) * k + N % k = N := by
    intro k N hk hN hN0 hN1 hb
    have e1 := Int.emod_add_mul_ediv N k
    have e2 := Int.emod_nonneg N (show k ≠ 0 by omega)
    have e3 := Int.emod_lt_of_pos N (show 0 < k by omega)
    obtain ⟨q, hq⟩ : ∃ q, N / k = q := ⟨_, rfl⟩
    have e4 : 0 ≤ q := by rw [← hq]; exact Int.ediv_nonneg hN0 (by omega)
    have e5 : q < 86400 := by
      rw [← hq]
      exact Int.ediv_lt_of_lt_mul (by omega) hN1
    rw [hq] at e1 ⊢
    have e6 : 60 * (60 * (q / 3600) + q / 60 % 60) + q % 60 = q := by omega
    rw [e6, Int.mul_comm q k]
    exact ⟨⟨by omega, by omega, by omega, by omega, by omega, by omega, e2, e3⟩, by omega⟩
  have hsb := sec_bd r
  by_cases h29 : r = 29
  · subst h29
    have hs : sec 29 = 30 := rfl
    have hd : dayN 29 = 2589408 := rfl
    rw [hd] at h1
    obtain ⟨t, ht⟩ : ∃ t, n / 17982 = t := ⟨_, rfl⟩
    obtain ⟨u, hu⟩ : ∃ u, n % 17982 = u := ⟨_, rfl⟩
    have hf : fulN 29 n = 18000 * t + u + 2 * (if 1800 ≤ u then (u - 1800) / 1798 + 1 else 0) := by unfold fulN; rw [if_pos rfl, ht, hu]
    obtain ⟨l, hl⟩ : ∃ l, (if 1800 ≤ u then (u - 1800) / 1798 + 1 else 0) = l := ⟨_, rfl⟩
    rw [hl] at hf
    have hl2 : (u < 1800 ∧ l = 0) ∨ (1800 ≤ u ∧ l = (u - 1800) / 1798 + 1) := by
      split at hl
      · exact .inr ⟨by assumption, hl.symm⟩
      · exact .inl ⟨by omega, hl.symm⟩
    clear hl
    obtain ⟨k1, k2⟩ := key 30 (fulN 29 n) rfl rfl (by rw [hf]; omega) (by rw [hf]; omega) (by omega)
    unfold cdH cdM cdS cdF
    rw [hs]
    rw [hf] at k1 k2 ⊢
    have hu2 : 0 ≤ u ∧ u < 17982 := by omega
    obtain ⟨N, hN⟩ : ∃ N, 18000 * t + u + 2 * l = N := ⟨_, rfl⟩
    rw [hN] at k1 k2 ⊢
    have ht2 : n = 17982 * t + u := by omega
    have ht3 : 0 ≤ t ∧ t < 144 := by omega
    refine ⟨codE_0 (by decide) k1 ?_, ?_⟩
    · rintro ⟨_, a1, a2, a3⟩
      rw [Int.tmod_eq_emod_of_nonneg k1.2.2.1] at a1
      omega
    · unfold frmN
      rw [if_pos rfl, hs, k2]
      have hb : 60 * (N / 30 / 3600) + N / 30 / 60 % 60 = N / 1800 := by omega
      have hc : N / 1800 = 10 * t + l := by omega
      rw [hb, hc]
      have hl9 : 0 ≤ l ∧ l ≤ 9 := by omega
      clear hb hc k1 k2
      omega
  · have hd : dayN r = 86400 * sec r := if_neg h29
    have hf : fulN r n = n := if_neg h29
    obtain ⟨k1, k2⟩ := key (sec r) (fulN r n) rfl rfl (by rw [hf]; exact h0) (by rw [hf, ← hd]; exact h1) (by omega)
    unfold cdH cdM cdS cdF
    refine ⟨codE_0 h k1 (fun hh => h29 hh.1), ?_⟩
    unfold frmN
    rw [if_neg h29, k2, hf]
    omega

/-! ### printed and read -/
def d2 (n : Nat) : List UInt8 := [UInt8.ofNat (48 + n / 10), UInt8.ofNat (48 + n % 10)]
def sepB (r : Int) : UInt8 := if r = 29 then 59 else 58
def prt (r : Int) (h m s f : Nat) : List UInt8 := d2 h ++ [58] ++ d2 m ++ [58] ++ d2 s ++ [sepB r] ++ d2 f
theorem prt_len (r : Int) (h m s f : Nat) : (prt r h m s f).length = 11 := rfl
def dg (b : UInt8) : Bool := decide (48 ≤ b.toNat ∧ b.toNat ≤ 57)
def num2 (a b : UInt8) : Nat := 10 * (a.toNat - 48) + (b.toNat - 48)
/-- what stands at place j of a code's form -/
def formB (r : Int) (j : Nat) : UInt8 := if j % 3 = 2 then (if j = 8 then sepB r else 58) else 48
def chk (r : Int) (l : List UInt8) (j : Nat) : Bool := if j % 3 = 2 then l.getD j 0 == formB r j else dg (l.getD j 0)
def fld (l : List UInt8) (k : Nat) : Nat := num2 (l.getD (3 * k) 0) (l.getD (3 * k + 1) 0)
def chkAll (r : Int) (l : List UInt8) : Bool := (List.range 11).all (chk r l)
theorem chkAll_iff {r : Int} {l : List UInt8} : chkAll r l = true ↔ ∀ j, j < 11 → chk r l j = true := by
  unfold chkAll
  rw [List.all_eq_true]
  exact ⟨fun h j hj => h j (List.mem_range.2 hj), fun h j hj => h j (List.mem_range.1 hj)⟩
def prsE (r : Int) (l : List UInt8) : Int := if sec r = 0 then 1 else if ¬ (l.length = 11 ∧ chkAll r l = true) then 9 else codE r (fld l 0) (fld l 1) (fld l 2) (fld l 3)
def prsV (r : Int) (l : List UInt8) (k : Nat) : Int := if prsE r l = 0 then (fld l k : Int) else 0
theorem u8_ofNat {n : Nat} (h : n < 256) : (UInt8.ofNat n).toNat = n := by rw [UInt8.toNat_ofNat']; exact Nat.mod_eq_of_lt h
theorem num2_d2 {n : Nat} (h : n < 100) : num2 (UInt8.ofNat (48 + n / 10)) (UInt8.ofNat (48 + n % 10)) = n := by
  unfold num2
  rw [u8_ofNat (by omega), u8_ofNat (by omega)]
  omega
theorem dg_d {n : Nat} (h : n < 10) : dg (UInt8.ofNat (48 + n)) = true := by
  unfold dg
  rw [u8_ofNat (by omega)]
  exact decide_eq_true (by omega)
theorem d2_num2 {a b : UInt8} (ha : dg a = true) (hb : dg b = true) : d2 (num2 a b) = [a, b] := by
  unfold dg at ha hb
  have ha := of_decide_eq_true ha
  have hb := of_decide_eq_true hb
  unfold d2 num2
  have e1 : 48 + (10 * (a.toNat - 48) + (b.toNat - 48)) / 10 = a.toNat := by omega
  have e2 : 48 + (10 * (a.toNat - 48) + (b.toNat - 48)) % 10 = b.toNat := by omega
  rw [e1, e2, UInt8.ofNat_toNat, UInt8.ofNat_toNat]
theorem num2_bd {a b : UInt8} (ha : dg a = true) (hb : dg b = true) : num2 a b < 100 := by
  unfold dg at ha hb
  have ha := of_decide_eq_true ha
  have hb := of_decide_eq_true hb
  unfold num2; omega
/-- what is printed is read -/
theorem prs_prt {r : Int} {h m s f : Nat} (e : codE r h m s f = 0) : prsE r (prt r h m s f) = 0 ∧ (fld (prt r h m s f) 0 = h ∧ fld (prt r h m s f) 1 = m ∧ fld (prt r h m s f) 2 = s ∧ fld (prt r h m s f) 3 = f) := by
  obtain ⟨h1, _, h3, _, h5, _, h7, _, h9, _⟩ := codE_ok e
  have hb := sec_bd r
  have f0 : fld (prt r h m s f) 0 = h := num2_d2 (by omega)
  have f1 : fld (prt r h m s f) 1 = m := num2_d2 (by omega)
  have f2 : fld (prt r h m s f) 2 = s := num2_d2 (by omega)
  have f3 : fld (prt r h m s f) 3 = f := num2_d2 (by omega)
  refine ⟨?_, f0, f1, f2, f3⟩
  unfold prsE
  rw [if_neg h1, if_neg, f0, f1, f2, f3, e]
  refine Decidable.not_not.2 ⟨rfl, chkAll_iff.2 fun j hj => ?_⟩
  match j, hj with
  | 0, _ => exact dg_d (by omega)
  | 1, _ => exact dg_d (by omega)
  | 2, _ => exact beq_self_eq_true _
  | 3, _ => exact dg_d (by omega)
  | 4, _ => exact dg_d (by omega)
  | 5, _ => exact beq_self_eq_true _
  | 6, _ => exact dg_d (by omega)
  | 7, _ => exact dg_d (by omega)
  | 8, _ => exact beq_self_eq_true _
  | 9, _ => exact dg_d (by omega)
  | 10, _ => exact dg_d (by omega)
/-- what has the form is what its numbers print as, and nothing else -/
theorem form_iff {r : Int} {l : List UInt8} (hl : l.length = 11) (hd : ∀ k, k < 4 → dg (l.getD (3 * k) 0) = true ∧ dg (l.getD (3 * k + 1) 0) = true) : prt r (fld l 0) (fld l 1) (fld l 2) (fld l 3) = l ↔ ∀ j, j < 11 → chk r l j = true := by
  match l, hl with
  | [a0, a1, a2, a3, a4, a5, a6, a7, a8, a9, a10], _ =>
    have h0 := hd 0 (by omega)
    have h1 := hd 1 (by omega)
    have h2 := hd 2 (by omega)
    have h3 := hd 3 (by omega)
    have e0 := d2_num2 h0.1 h0.2
    have e1 := d2_num2 h1.1 h1.2
    have e2 := d2_num2 h2.1 h2.2
    have e3 := d2_num2 h3.1 h3.2
    unfold prt fld
    rw [e0, e1, e2, e3]
    show [a0, a1, 58, a3, a4, 58, a6, a7, sepB r, a9, a10] = [a0, a1, a2, a3, a4, a5, a6, a7, a8, a9, a10] ↔ _
    constructor
    · intro h j hj
      simp only [List.cons.injEq, true_and, and_true] at h
      obtain ⟨x1, x2, x3⟩ := h
      match j, hj with
      | 0, _ => exact h0.1
      | 1, _ => exact h0.2
      | 2, _ => show (a2 == 58) = true; rw [← x1]; rfl
      | 3, _ => exact h1.1
      | 4, _ => exact h1.2
      | 5, _ => show (a5 == 58) = true; rw [← x2]; rfl
      | 6, _ => exact h2.1
      | 7, _ => exact h2.2
      | 8, _ => show (a8 == sepB r) = true; rw [← x3]; exact beq_self_eq_true _
      | 9, _ => exact h3.1
      | 10, _ => exact h3.2
    · intro h
      have x1 : (a2 == 58) = true := h 2 (by omega)
      have x2 : (a5 == 58) = true := h 5 (by omega)
      have x3 : (a8 == sepB r) = true := h 8 (by omega)
      rw [beq_iff_eq] at x1 x2 x3
      rw [x1, x2, x3]
end Go.Proofs.YtapcgokcfmklbaaDoor
