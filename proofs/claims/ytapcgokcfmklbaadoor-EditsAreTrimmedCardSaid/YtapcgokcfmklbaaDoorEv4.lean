/-
  Edit lists slipped and trimmed: far moves give the same error; back leads back. No program in sight. Conditions: none.
-/
import Derived.Test.YtapcgokcfmklbaaDoorE7
namespace Go.Proofs.YtapcgokcfmklbaaDoor
open Go Go.Proofs Go.RowKit

theorem firstE_zero {f : Nat → Int} : ∀ {n : Nat}, (∀ i, i < n → f i = 0) → firstE f n = 0
  | 0, _ => rfl
  | n + 1, h => by unfold firstE; rw [if_neg (by rw [firstE_zero (fun i hi => h i (by omega))]; simp)]; exact h n (by omega)
/-- the first wrong event has its bounds wrong -/
theorem ed_at3 {t : List UInt8} {r : Int} {l l2 : List Ev} {i : Nat} (h : edE t r l = 0) (hl : l2.length = l.length) (hi : i < l.length) (hb : ∀ j, j < i → l2.getD j default = l.getD j default)
    (h1 : (l2.getD i default).reel = (l.getD i default).reel) (h2 : (l2.getD i default).kind = (l.getD i default).kind)
    (h3 : (l2.getD i default).inn < 0 ∨ (l2.getD i default).out ≤ (l2.getD i default).inn ∨ 16777216 < (l2.getD i default).out ∨ (l2.getD i default).at_ < 0 ∨ 16777216 < (l2.getD i default).at_) : edE t r l2 = 3 := by
  obtain ⟨k1, k2, k3, k4⟩ := edE_ok h
  have hend : ∀ j, j ≤ i → endB l2 j = endB l j := by
    intro j hj
    unfold endB
    by_cases e : j = 0
    · rw [if_pos e, if_pos e]
    · rw [if_neg e, if_neg e, hb (j - 1) (by omega)]
  refine edE_at (i := i) k1 k2 (by omega) (firstE_zero fun j hj => ?_) (by omega) (x := 3) ?_ (by omega)
  · have := k4 j (by omega)
    unfold evErr at this ⊢
    rw [hb j hj, hend j (by omega)]; exact this
  · have := evE1_ok (k4 i hi)
    unfold evErr
    exact evE1_3 (by rw [h1]; exact this.1) (by rw [h2]; exact this.2.1) h3
theorem slipL_at {l : List Ev} {i : Nat} {b : Int} (hi : i < l.length) : (slipL l i b).getD i default = slipE (l.getD i default) b := getD_set hi
theorem slipL_ne {l : List Ev} {i j : Nat} {b : Int} (h : j ≠ i) : (slipL l i b).getD j default = l.getD j default := by
  unfold slipL
  rw [List.getD_eq_getElem?_getD, List.getElem?_set_ne (fun e => h e.symm), List.getD_eq_getElem?_getD]
theorem trimEL_at {l : List Ev} {i j : Nat} {b : Int} (hj : j < l.length) : (trimEL l i b).getD j default = trimE i b j (l.getD j default) := by
  unfold trimEL; rw [trimK_at hj, if_pos hj]
theorem ev_rng {t : List UInt8} {r : Int} {l : List Ev} {i : Nat} (h : edE t r l = 0) (hi : i < l.length) : 0 ≤ (l.getD i default).inn ∧ (l.getD i default).inn < (l.getD i default).out ∧ (l.getD i default).out ≤ 16777216 := by
  have := evE1_ok ((edE_ok h).2.2.2 i hi)
  omega
theorem slip_far {t : List UInt8} {r : Int} {l : List Ev} {i : Nat} {b : Int} (h : edE t r l = 0) (hi : i < l.length) (hb : b < -16777216 ∨ 16777216 < b) : edE t r (slipL l i b) = 3 := by
  have h0 := ev_rng h hi
  refine ed_at3 h (slipL_len ..) hi (fun j hj => slipL_ne (by omega)) (by rw [slipL_at hi]; rfl) (by rw [slipL_at hi]; rfl) ?_
  rw [slipL_at hi]
  show (l.getD i default).inn + b < 0 ∨ (l.getD i default).out + b ≤ (l.getD i default).inn + b ∨ 16777216 < (l.getD i default).out + b ∨ _
  omega
theorem trim_far {t : List UInt8} {r : Int} {l : List Ev} {i : Nat} {b : Int} (h : edE t r l = 0) (hi : i < l.length) (hb : b < -16777216 ∨ 16777216 < b) : edE t r (trimEL l i b) = 3 := by
  have h0 := ev_rng h hi
  have e : (trimEL l i b).getD i default = { l.getD i default with out := (l.getD i default).out + b } := by rw [trimEL_at hi]; unfold trimE; rw [if_pos rfl]
  refine ed_at3 h (trimEL_len ..) hi (fun j hj => ?_) (by rw [e]) (by rw [e]) ?_
  · rw [trimEL_at (by omega)]; unfold trimE; rw [if_neg (by omega), if_neg (by omega)]
  · rw [e]
    show (l.getD i default).inn < 0 ∨ (l.getD i default).out + b ≤ (l.getD i default).inn ∨ 16777216 < (l.getD i default).out + b ∨ _
    omega
theorem ev_ext {a b : Ev} (h1 : a.reel = b.reel) (h2 : a.kind = b.kind) (h3 : a.len = b.len) (h4 : a.inn = b.inn) (h5 : a.out = b.out) (h6 : a.at_ = b.at_) : a = b := by
  cases a; cases b; simp_all
theorem slip_back {l : List Ev} {i : Nat} {b : Int} (hi : i < l.length) : slipL (slipL l i b) i (-b) = l := by
  refine getD_ext (by rw [slipL_len, slipL_len]) fun j hj => ?_
  by_cases e : j = i
  · subst e
    rw [slipL_at (by rw [slipL_len]; exact hi), slipL_at hi]
    refine ev_ext rfl rfl rfl ?_ ?_ rfl
    · show (l.getD j default).inn + b + -b = (l.getD j default).inn; omega
    · show (l.getD j default).out + b + -b = (l.getD j default).out; omega
  · rw [slipL_ne e, slipL_ne e]
theorem trim_back {l : List Ev} {i : Nat} {b : Int} : trimEL (trimEL l i b) i (-b) = l := by
  refine getD_ext (by rw [trimEL_len, trimEL_len]) fun j hj => ?_
  rw [trimEL_len] at hj
  have hj1 : j < l.length := by rw [trimEL_len] at hj; exact hj
  rw [trimEL_at hj, trimEL_at hj1]
  unfold trimE
  by_cases e : j = i
  · rw [if_pos e, if_pos e]
    refine ev_ext rfl rfl rfl rfl ?_ rfl
    show (l.getD j default).out + b + -b = (l.getD j default).out; omega
  · rw [if_neg e, if_neg e]
    by_cases e2 : i < j
    · rw [if_pos e2, if_pos e2]
      refine ev_ext rfl rfl rfl rfl rfl ?_
      show (l.getD j default).at_ + b + -b = (l.getD j default).at_; omega
    · rw [if_neg e2, if_neg e2]
/-- the answer of a change, as numbers -/
def chP (t : List UInt8) (rate : Int) (l l2 : List Ev) (i : Int) : List UInt8 × Int × List Ev × Int :=
  if edE t rate l ≠ 0 then ([], 0, [], edE t rate l) else if i < 0 ∨ (l.length : Int) ≤ i then ([], 0, [], 11) else if edE t rate l2 ≠ 0 then ([], 0, [], edE t rate l2) else (t, rate, l2, 0)
theorem chP_0 {t : List UInt8} {rate : Int} {l l2 : List Ev} {i : Int} (h : (chP t rate l l2 i).2.2.2 = 0) : chP t rate l l2 i = (t, rate, l2, 0) ∧ edE t rate l = 0 ∧ 0 ≤ i ∧ i < (l.length : Int) ∧ edE t rate l2 = 0 := by
  unfold chP at h ⊢
  split at h
  · rename_i h1; exact absurd h h1
  · rename_i h1
    split at h
    · cases h
    · rename_i h2
      split at h
      · rename_i h3; exact absurd h h3
      · rename_i h3
        exact ⟨by rw [if_neg h1, if_neg h2, if_neg h3], Decidable.not_not.1 h1, by omega, by omega, Decidable.not_not.1 h3⟩
theorem chP_ok {t : List UInt8} {rate : Int} {l l2 : List Ev} {i : Int} (h1 : edE t rate l = 0) (h2 : 0 ≤ i) (h3 : i < (l.length : Int)) (h4 : edE t rate l2 = 0) : chP t rate l l2 i = (t, rate, l2, 0) := by
  unfold chP; rw [if_neg (by simp [h1]), if_neg (by omega), if_neg (by simp [h4])]
/-- clamped at 2^30 or at 2^40: the same answer -/
theorem chP_same {t : List UInt8} {rate : Int} {l : List Ev} {i by_ : Int} (F : List Ev → Nat → Int → List Ev) (hF : ∀ b, edE t rate l = 0 → i.toNat < l.length → (b < -16777216 ∨ 16777216 < b) → edE t rate (F l i.toNat b) = 3) :
    chP t rate l (F l i.toNat (min (max by_ (-1073741824)) 1073741824)) i = chP t rate l (F l i.toNat (min (max by_ (-1099511627776)) 1099511627776)) i := by
  by_cases hb : -1073741824 ≤ by_ ∧ by_ ≤ 1073741824
  · rw [show min (max by_ (-1073741824)) 1073741824 = by_ by omega, show min (max by_ (-1099511627776)) 1099511627776 = by_ by omega]
  · unfold chP
    split
    · rfl
    · rename_i h1
      split
      · rfl
      · rename_i h2
        rw [hF _ (Decidable.not_not.1 h1) (by omega) (by omega), hF _ (Decidable.not_not.1 h1) (by omega) (by omega), if_pos (by decide), if_pos (by decide)]
theorem ch_near {t : List UInt8} {rate : Int} {l : List Ev} {i by_ : Int} (F : List Ev → Nat → Int → List Ev) (hF : ∀ b, edE t rate l = 0 → i.toNat < l.length → (b < -16777216 ∨ 16777216 < b) → edE t rate (F l i.toNat b) = 3)
    (h : (chP t rate l (F l i.toNat (min (max by_ (-1073741824)) 1073741824)) i).2.2.2 = 0) : -16777216 ≤ by_ ∧ by_ ≤ 16777216 := by
  obtain ⟨_, h1, h2, h3, h4⟩ := chP_0 h
  by_cases hb : -16777216 ≤ by_ ∧ by_ ≤ 16777216
  · exact hb
  · rw [hF _ h1 (by omega) (by omega)] at h4; cases h4
/-- back leads back -/
theorem ch_back {t : List UInt8} {rate : Int} {l : List Ev} {i by_ : Int} (F : List Ev → Nat → Int → List Ev) (hF : ∀ b, edE t rate l = 0 → i.toNat < l.length → (b < -16777216 ∨ 16777216 < b) → edE t rate (F l i.toNat b) = 3)
    (hB : ∀ b, i.toNat < l.length → F (F l i.toNat b) i.toNat (-b) = l) (hL : ∀ b, (F l i.toNat b).length = l.length)
    (h : (chP t rate l (F l i.toNat (min (max by_ (-1073741824)) 1073741824)) i).2.2.2 = 0) :
    chP t rate (F l i.toNat (min (max by_ (-1073741824)) 1073741824)) (F (F l i.toNat (min (max by_ (-1073741824)) 1073741824)) i.toNat (min (max (-by_) (-1073741824)) 1073741824)) i = (t, rate, l, 0) := by
  have hn := ch_near F hF h
  obtain ⟨_, h1, h2, h3, h4⟩ := chP_0 h
  rw [show min (max by_ (-1073741824)) 1073741824 = by_ by omega] at h4 ⊢
  rw [show min (max (-by_) (-1073741824)) 1073741824 = -by_ by omega, hB _ (by omega)]
  exact chP_ok h4 h2 (by rw [hL]; exact h3) h1
/-- events in a list of blocks -/
def EB (H : HL) (A : Option Addr) (m : List Ev) : Prop := m = [] ∨ ∃ g junk, A = some ⟨g, 0, none⟩ ∧ (⟨g, 134, evs m ++ junk⟩ : B) ∈ H
theorem ES.eb {W w : World} {H H2 : HL} {A : Option Addr} {m : List Ev} (h : EB H A m) (ho : Own W w H2) (hs : ∀ b, b ∈ H → b ∈ H2) : ES w A m := by
  rcases h with rfl | ⟨g, junk, rfl, hm⟩
  · exact fun h => absurd h (by simp)
  · exact ES.blk ho (hs _ hm)
theorem sbp_dropl (K T : HL) : Sbp T (K ++ T) := by
  induction K with
  | nil => exact Sbp.refl
  | cons c K ih => exact Sbp.skip ih
/-- a change's answer: what it is, where it lies -/
theorem chR_Q {t : List UInt8} {rate : Int} {n : Nat} {l l2 : List Ev} {i : Int} {v : Value} {H : HL} {p1 : List UInt8} {p2 : Int} {p3 : List Ev} {p4 : Int} (hP : chP t rate l l2 i = (p1, p2, p3, p4)) (hn : l.length = n) (h : chR t rate n l l2 i v H) (hl2 : l2.length = n) (hx : n ≤ maxLen) :
    ∃ (A : Option Addr) (k c : Nat), v = .tuple #[.agg #[sv p1, iv p2, .slice A k c], iv p4] ∧ EB H A p3 ∧ p3.length = k ∧ k ≤ maxLen := by
  subst hn
  unfold chP at hP
  rcases h with ⟨h1, rfl, rfl⟩ | ⟨h1, h2, rfl, rfl⟩ | ⟨h1, h2, h3, h4, rfl, rfl⟩ | ⟨h1, h2, h3, h4, g, cap, junk, rfl, rfl, h5, h6⟩
  · rw [if_pos h1] at hP; cases hP; exact ⟨none, 0, 0, rfl, .inl rfl, rfl, Nat.zero_le _⟩
  · rw [if_neg (by simp [h1]), if_pos h2] at hP; cases hP; exact ⟨none, 0, 0, rfl, .inl rfl, rfl, Nat.zero_le _⟩
  · rw [if_neg (by simp [h1]), if_neg (by omega), if_pos h4] at hP; cases hP; exact ⟨none, 0, 0, rfl, .inl rfl, rfl, Nat.zero_le _⟩
  · rw [if_neg (by simp [h1]), if_neg (by omega), if_neg (by simp [h4])] at hP; cases hP; exact ⟨_, _, _, rfl, .inr ⟨g, junk, rfl, List.Mem.head _⟩, hl2, hx⟩
theorem chP_ex (t : List UInt8) (rate : Int) (l l2 : List Ev) (i : Int) : ∃ p1 p2 p3 p4, chP t rate l l2 i = (p1, p2, p3, p4) := ⟨_, _, _, _, rfl⟩
/-- back, with the answer's parts named -/
theorem back_Q {t : List UInt8} {rate : Int} {l : List Ev} {i by_ : Int} {p1 : List UInt8} {p2 : Int} {p3 : List Ev} {p4 : Int} (F : List Ev → Nat → Int → List Ev) (hF : ∀ b, edE t rate l = 0 → i.toNat < l.length → (b < -16777216 ∨ 16777216 < b) → edE t rate (F l i.toNat b) = 3)
    (hB : ∀ b, i.toNat < l.length → F (F l i.toNat b) i.toNat (-b) = l) (hL : ∀ b, (F l i.toNat b).length = l.length)
    (hP : chP t rate l (F l i.toNat (min (max by_ (-1073741824)) 1073741824)) i = (p1, p2, p3, p4)) (h0 : p4 = 0) :
    chP p1 p2 p3 (F p3 i.toNat (min (max (-by_) (-1073741824)) 1073741824)) i = (t, rate, l, 0) ∧ -16777216 ≤ by_ ∧ by_ ≤ 16777216 := by
  have h : (chP t rate l (F l i.toNat (min (max by_ (-1073741824)) 1073741824)) i).2.2.2 = 0 := by rw [hP]; exact h0
  have h2 := ch_back F hF hB hL h
  have h3 := (chP_0 h).1
  rw [hP] at h3
  cases h3
  exact ⟨h2, ch_near F hF h⟩
theorem sbp_swap (C K T : HL) : Sbp (C ++ (K ++ T)) (K ++ (C ++ T)) := by
  induction C with
  | nil => exact Sbp.refl
  | cons c C ih => exact Sbp.cons (rem_appx Rem.head) ih
theorem chP_reel {t : List UInt8} {rate : Int} {l l2 : List Ev} {i : Int} (h : ∀ e ∈ l2, e.reel.length ≤ maxLen) : ∀ e ∈ (chP t rate l l2 i).2.2.1, e.reel.length ≤ maxLen := by
  unfold chP
  split
  · intro e he; cases he
  · split
    · intro e he; cases he
    · split
      · intro e he; cases he
      · exact h
theorem chP_tl {t : List UInt8} {rate : Int} {l l2 : List Ev} {i : Int} (h : t.length ≤ maxLen) : (chP t rate l l2 i).1.length ≤ maxLen := by
  unfold chP
  split
  · exact Nat.zero_le _
  · split
    · exact Nat.zero_le _
    · split
      · exact Nat.zero_le _
      · exact h
end Go.Proofs.YtapcgokcfmklbaaDoor
