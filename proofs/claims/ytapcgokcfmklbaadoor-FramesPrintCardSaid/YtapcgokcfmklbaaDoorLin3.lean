/-
  Plain law of frames written as texts: pieces of joined texts, numbers written and read again. No program in sight. Conditions: as each theorem says.
-/
import Derived.Test.YtapcgokcfmklbaaDoorLin2
namespace Go.Proofs.YtapcgokcfmklbaaDoor
open Go Go.RowKit

/-! ### joined texts are parted again -/
theorem idx_cons (b : UInt8) (l sep : List UInt8) : Lib.index (b :: l) sep = if sep.isPrefixOf (b :: l) then 0 else if Lib.index l sep == -1 then -1 else Lib.index l sep + 1 := by rw [Lib.index]
theorem idx_step {b : UInt8} {l sep : List UInt8} {n : Nat} (h : sep.isPrefixOf (b :: l) = false) (hn : Lib.index l sep = n) : Lib.index (b :: l) sep = ((n + 1 : Nat) : Int) := by
  rw [idx_cons, h, hn, if_neg (by simp), if_neg (by rw [beq_iff_eq]; omega)]
  omega
theorem idx_hit {b : UInt8} {l sep : List UInt8} (h : sep.isPrefixOf (b :: l) = true) : Lib.index (b :: l) sep = ((0 : Nat) : Int) := by
  rw [idx_cons, h, if_pos rfl]; rfl
theorem idx1 {c : UInt8} : ∀ (x rest : List UInt8), c ∉ x → Lib.index (x ++ c :: rest) [c] = x.length
  | [], rest, _ => idx_hit (by simp [List.isPrefixOf])
  | b :: x, rest, h => idx_step (by
      have hb : c ≠ b := fun e => h (e ▸ .head _)
      simp [List.isPrefixOf, hb]) (idx1 x rest (fun hh => h (.tail _ hh)))
theorem idx3 : ∀ (x rest : List UInt8), (124 : UInt8) ∉ x → Lib.index (x ++ 32 :: 124 :: 32 :: rest) (32 :: 124 :: 32 :: []) = x.length
  | [], rest, _ => idx_hit (by simp [List.isPrefixOf])
  | [b], rest, _ => idx_step (by simp [List.isPrefixOf]) (idx3 [] rest (by simp))
  | b :: d :: x, rest, h => idx_step (by
      have hd : (124 : UInt8) ≠ d := fun e => h (e ▸ .tail _ (.head _))
      simp [List.isPrefixOf, hd]) (idx3 (d :: x) rest (fun hh => h (.tail _ hh)))
theorem idx_no {c : UInt8} {sep : List UInt8} (hc : c ∈ sep) : ∀ x : List UInt8, c ∉ x → Lib.index x sep = -1
  | [], _ => by
    cases sep with
    | nil => cases hc
    | cons a t => rfl
  | b :: x, h => by
    have h1 : sep.isPrefixOf (b :: x) = false := by
      cases e : sep.isPrefixOf (b :: x)
      · rfl
      · exact absurd ((List.isPrefixOf_iff_prefix.1 e).subset hc) h
    rw [idx_cons, h1, idx_no hc x (fun hh => h (.tail _ hh))]
    rfl
theorem pcs_joins {sep z : List UInt8} (hs : sep ≠ []) (hz : Lib.index z sep = -1) : ∀ L : List (List UInt8), (∀ x ∈ L, ∀ rest, Lib.index (x ++ (sep ++ rest)) sep = x.length) → pcs ((L.flatMap (· ++ sep)) ++ z) sep = L ++ [z]
  | [], _ => pcs_miss hz
  | x :: L, h => by
    have ih := pcs_joins hs hz L (fun y hy => h y (.tail _ hy))
    have h1 : ((x :: L).flatMap (· ++ sep)) ++ z = x ++ (sep ++ (L.flatMap (· ++ sep) ++ z)) := by simp
    have h2 := h x (.head _) (L.flatMap (· ++ sep) ++ z)
    rw [h1, pcs_hit hs h2, List.take_left, ← List.drop_drop, List.drop_left, List.drop_left, ih]
    rfl
theorem pcs_one_byte {c : UInt8} {z : List UInt8} (hz : c ∉ z) (L : List (List UInt8)) (h : ∀ x ∈ L, c ∉ x) : pcs ((L.flatMap (· ++ [c])) ++ z) [c] = L ++ [z] :=
  pcs_joins (by simp) (idx_no (List.mem_singleton.2 rfl) z hz) L (fun x hx rest => by
    rw [List.singleton_append]
    exact idx1 x rest (h x hx))
theorem pcs_bar {z : List UInt8} (hz : (124 : UInt8) ∉ z) (L : List (List UInt8)) (h : ∀ x ∈ L, (124 : UInt8) ∉ x) : pcs ((L.flatMap (· ++ (32 :: 124 :: 32 :: []))) ++ z) (32 :: 124 :: 32 :: []) = L ++ [z] :=
  pcs_joins (by simp) (idx_no (c := 124) (by simp) z hz) L (fun x hx rest => idx3 x rest (h x hx))

/-! ### whole numbers -/
theorem pu_cons (acc : Nat) (c : UInt8) (r : List UInt8) : Lib.parseUint10 acc (c :: r) = if 48 ≤ c.toNat ∧ c.toNat ≤ 57 then (if 1844674407370955162 ≤ acc then .range else if 18446744073709551616 ≤ acc * 10 + (c.toNat - 48) then .range else Lib.parseUint10 (acc * 10 + (c.toNat - 48)) r) else Lib.parseUint10 0 (0 :: []) := rfl
theorem pu_app : ∀ (l r : List UInt8) (acc u : Nat), Lib.parseUint10 acc l = .ok u → Lib.parseUint10 acc (l ++ r) = Lib.parseUint10 u r
  | [], r, acc, u, h => by
    unfold Lib.parseUint10 at h
    injection h with h
    subst h; rfl
  | c :: l, r, acc, u, h => by
    rw [pu_cons] at h
    rw [List.cons_append, pu_cons]
    split at h
    · rename_i h1
      rw [if_pos h1]
      split at h
      · cases h
      · rename_i h2
        rw [if_neg h2]
        split at h
        · cases h
        · rename_i h3
          rw [if_neg h3]
          exact pu_app l r _ u h
    · cases h
theorem dig_nat {d : Nat} (h : d < 10) : (UInt8.ofNat (48 + d)).toNat = 48 + d := by
  rw [UInt8.toNat_ofNat']
  omega
theorem pu_dec : ∀ u : Nat, u < 1000000000000000000 → Lib.parseUint10 0 (Lib.decDigits u) = .ok u := by
  intro u
  induction u using Nat.strongRecOn with
  | _ u ih =>
    intro hu
    rw [Lib.decDigits]
    by_cases h : u < 10
    · rw [dif_pos h]
      unfold Lib.parseUint10
      rw [dig_nat h, if_pos (by omega), if_neg (by omega), if_neg (by omega)]
      unfold Lib.parseUint10
      congr 1
      omega
    · rw [dif_neg h, pu_app _ _ _ _ (ih (u / 10) (by omega) (by omega))]
      unfold Lib.parseUint10
      rw [dig_nat (show u % 10 < 10 by omega), if_pos (by omega), if_neg (by omega), if_neg (by omega)]
      unfold Lib.parseUint10
      congr 1
      omega
theorem dec_digs (u : Nat) : Lib.decDigits u ≠ [] ∧ ∀ c ∈ Lib.decDigits u, 48 ≤ c.toNat ∧ c.toNat ≤ 57 := by
  induction u using Nat.strongRecOn with
  | _ u ih =>
    rw [Lib.decDigits]
    by_cases h : u < 10
    · rw [dif_pos h]
      refine ⟨by simp, fun c hc => ?_⟩
      rw [List.mem_singleton] at hc
      rw [hc, dig_nat h]; omega
    · rw [dif_neg h]
      refine ⟨by simp, fun c hc => ?_⟩
      rcases List.mem_append.1 hc with hc | hc
      · exact (ih (u / 10) (by omega)).2 c hc
      · rw [List.mem_singleton] at hc
        rw [hc, dig_nat (show u % 10 < 10 by omega)]; omega
theorem atoi_itoa {n : Int} (h : -1000000 ≤ n ∧ n ≤ 1000000) : Lib.atoiAll (Lib.itoa n) = .ok n := by
  unfold Lib.itoa
  by_cases hn : n < 0
  · rw [if_pos hn]
    have h1 := pu_dec n.natAbs (by omega)
    have h2 : Lib.parseMag (Lib.decDigits n.natAbs) = .ok n.natAbs := by
      unfold Lib.parseMag
      rw [if_neg (dec_digs _).1, h1]
    unfold Lib.atoiAll
    have h45 : (45 : UInt8).toNat = 45 := rfl
    simp only [h45]
    rw [if_pos (.inr trivial), h2]
    simp only
    rw [if_neg (by omega), if_neg (by omega), if_pos trivial]
    congr 1
    omega
  · rw [if_neg hn]
    have h1 := pu_dec n.toNat (by omega)
    have h3 := dec_digs n.toNat
    have h2 : Lib.parseMag (Lib.decDigits n.toNat) = .ok n.toNat := by
      unfold Lib.parseMag
      rw [if_neg h3.1, h1]
    cases hl : Lib.decDigits n.toNat with
    | nil => exact absurd hl h3.1
    | cons c r =>
      rw [hl] at h2 h3
      have h4 := h3.2 c (.head _)
      unfold Lib.atoiAll
      simp only
      rw [if_neg (by omega), h2]
      simp only
      rw [if_neg (by omega), if_neg (by omega), if_neg (by omega)]
      congr 1
      omega
theorem intB_itoa {n : Int} (h : -1000000 ≤ n ∧ n ≤ 1000000) : intB (Lib.itoa n) = true := by
  unfold intB; rw [atoi_itoa h]; simp
theorem intV_itoa {n : Int} (h : -1000000 ≤ n ∧ n ≤ 1000000) : intV (Lib.itoa n) = n := by
  unfold intV; rw [atoi_itoa h]
theorem itoa_no {n : Int} {c : UInt8} (hc : c.toNat < 45) : c ∉ Lib.itoa n := by
  unfold Lib.itoa
  intro h
  split at h
  · rcases List.mem_cons.1 h with h | h
    · subst h; exact absurd hc (by decide)
    · have := (dec_digs _).2 c h; omega
  · have := (dec_digs _).2 c h; omega

/-! ### numbers in sixteens -/
def dig (k : Nat) : UInt8 := digs.getD k 0
theorem dig_all : ∀ k : Nat, k < 16 → hx (dig k) = k ∧ 48 ≤ (dig k).toNat ∧ (dig k).toNat ≠ 124 := by decide +kernel
/-- the last k sixteenths of n -/
def hxd : Nat → Nat → List UInt8
  | 0, _ => []
  | k + 1, n => dig (n / 16 ^ k % 16) :: hxd k n
theorem hxd_len : ∀ k n, (hxd k n).length = k
  | 0, _ => rfl
  | k + 1, n => congrArg (· + 1) (hxd_len k n)
theorem m16 (x : Nat) : x % 16 < 16 := Nat.mod_lt _ (by decide)
theorem hxd_mem {c : UInt8} : ∀ {k n : Nat}, c ∈ hxd k n → 48 ≤ c.toNat ∧ c.toNat ≠ 124 ∧ 0 ≤ hx c
  | 0, _, h => by cases h
  | k + 1, n, h => by
    rcases List.mem_cons.1 h with h | h
    · have := dig_all _ (m16 (n / 16 ^ k))
      subst h
      exact ⟨this.2.1, this.2.2, by omega⟩
    · exact hxd_mem h
theorem hxd_foldl : ∀ (k n a : Nat), (hxd k n).foldl (fun n c => n * 16 + hxN c) a = a * 16 ^ k + n % 16 ^ k
  | 0, n, a => by simp [hxd, Nat.mod_one]
  | k + 1, n, a => by
    unfold hxd
    rw [List.foldl_cons, hxd_foldl k n]
    have h1 : hxN (dig (n / 16 ^ k % 16)) = n / 16 ^ k % 16 := by
      unfold hxN; rw [(dig_all _ (m16 _)).1]; rfl
    rw [h1, Nat.pow_succ, Nat.mod_mul, Nat.add_mul, Nat.mul_assoc, Nat.mul_comm 16 (16 ^ k)]
    rw [Nat.mul_comm (n / 16 ^ k % 16) (16 ^ k)]
    omega
theorem hexN_hxd (k n : Nat) (h : n < 16 ^ k) : hexN (hxd k n) = n := by
  unfold hexN
  rw [hxd_foldl, Nat.mod_eq_of_lt h]
  omega
theorem hexB_hxd (k n : Nat) : hexB (hxd k n) = true := by
  unfold hexB
  rw [List.all_eq_true]
  intro c hc
  exact decide_eq_true (hxd_mem hc).2.2
theorem hxd_pad : ∀ (m k n : Nat), n < 16 ^ k → hxd (m + k) n = List.replicate m 48 ++ hxd k n
  | 0, k, n, h => by rw [Nat.zero_add]; rfl
  | m + 1, k, n, h => by
    rw [show m + 1 + k = (m + k) + 1 by omega, List.replicate_succ, List.cons_append, ← hxd_pad m k n h]
    show dig (n / 16 ^ (m + k) % 16) :: hxd (m + k) n = _
    have h1 : n < 16 ^ (m + k) := Nat.lt_of_lt_of_le h (Nat.pow_le_pow_right (by omega) (by omega))
    rw [Nat.div_eq_of_lt h1]
    rfl
/-- the word of a number -/
def hexW (x : Nat) : List UInt8 := hxd 8 (cl x)
theorem hexW_len (x : Nat) : (hexW x).length = 8 := hxd_len _ _
theorem hexW_no {x : Nat} {c : UInt8} (hc : c.toNat < 48 ∨ c.toNat = 124) : c ∉ hexW x := fun h => by
  have := hxd_mem h
  omega
end Go.Proofs.YtapcgokcfmklbaaDoor
