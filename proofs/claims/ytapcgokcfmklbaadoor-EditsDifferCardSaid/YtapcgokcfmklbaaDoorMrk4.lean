/-
  Where two films differ: the marks of both sides are the same; between two marks a film goes on evenly. No program in sight. Conditions: none.
-/
import Derived.Test.YtapcgokcfmklbaaDoorMrk3
namespace Go.Proofs.YtapcgokcfmklbaaDoor
open Go Go.RowKit

/-- a mark of a film -/
def isM (l : List Ev) (x : Int) : Prop := ∃ i, i < l.length ∧ (((l.getD i default).at_ ≤ x ∧ x ≤ (l.getD i default).at_ + (l.getD i default).len) ∨ x = evEnd (l.getD i default))
theorem mkD_mem {e : Ev} {q : Nat} {x : Int} : x ∈ mkD e q ↔ x = e.at_ ∨ x = evEnd e ∨ ∃ k : Nat, k < q ∧ x = e.at_ + ((k + 1 : Nat) : Int) := by
  unfold mkD
  simp only [List.mem_append, List.mem_cons, List.not_mem_nil, or_false, List.mem_map, List.mem_range]
  constructor
  · rintro ((h | h) | ⟨k, h1, h2⟩)
    · exact .inl h
    · exact .inr (.inl h)
    · exact .inr (.inr ⟨k, h1, h2.symm⟩)
  · rintro (h | h | ⟨k, h1, h2⟩)
    · exact .inl (.inl h)
    · exact .inl (.inr h)
    · exact .inr ⟨k, h1, h2.symm⟩
theorem rkD_mem {e : Ev} {q : Nat} {x : Int} : x ∈ rkD e q ↔ x = e.at_ ∨ x = evEnd e ∨ ∃ k : Nat, k < q ∧ x = e.at_ + (k : Int) := by
  unfold rkD
  simp only [List.mem_append, List.mem_cons, List.not_mem_nil, or_false, List.mem_map, List.mem_range]
  constructor
  · rintro ((h | h) | ⟨k, h1, h2⟩)
    · exact .inl h
    · exact .inr (.inl h)
    · exact .inr (.inr ⟨k, h1, h2.symm⟩)
  · rintro (h | h | ⟨k, h1, h2⟩)
    · exact .inl (.inl h)
    · exact .inl (.inr h)
    · exact .inr ⟨k, h1, h2.symm⟩
theorem mkP_iff {e : Ev} {x : Int} (h : okE e) : x ∈ mkP e ↔ ((e.at_ ≤ x ∧ x ≤ e.at_ + e.len) ∨ x = evEnd e) := by
  unfold okE at h
  unfold mkP
  rw [mkD_mem]
  constructor
  · rintro (h1 | h1 | ⟨k, h1, h2⟩)
    · exact .inl (by omega)
    · exact .inr h1
    · exact .inl (by omega)
  · rintro (h1 | h1)
    · by_cases e0 : x = e.at_
      · exact .inl e0
      · exact .inr (.inr ⟨(x - e.at_ - 1).toNat, by omega, by omega⟩)
    · exact .inr (.inl h1)
theorem rkP_iff {e : Ev} {x : Int} (h : okE e) : x ∈ rkP e ↔ ((e.at_ ≤ x ∧ x ≤ e.at_ + e.len) ∨ x = evEnd e) := by
  unfold okE at h
  unfold rkP
  rw [rkD_mem]
  constructor
  · rintro (h1 | h1 | ⟨k, h1, h2⟩)
    · exact .inl (by omega)
    · exact .inr h1
    · exact .inl (by omega)
  · rintro (h1 | h1)
    · exact .inr (.inr ⟨(x - e.at_).toNat, by omega, by omega⟩)
    · exact .inr (.inl h1)
theorem mkL_mem {l : List Ev} {x : Int} : ∀ {n : Nat}, x ∈ mkL l n ↔ ∃ i, i < n ∧ x ∈ mkP (l.getD i default)
  | 0 => ⟨(fun h => by cases h), (fun ⟨i, h, _⟩ => absurd h (Nat.not_lt_zero _))⟩
  | n + 1 => by
    show x ∈ mkL l n ++ mkP (l.getD n default) ↔ _
    rw [List.mem_append, mkL_mem]
    constructor
    · rintro (⟨i, h1, h2⟩ | h)
      · exact ⟨i, by omega, h2⟩
      · exact ⟨n, by omega, h⟩
    · rintro ⟨i, h1, h2⟩
      by_cases e : i = n
      · subst e; exact .inr h2
      · exact .inl ⟨i, by omega, h2⟩
theorem rkL_mem {l : List Ev} {x : Int} : ∀ {n : Nat}, x ∈ rkL l n ↔ ∃ i, i < n ∧ x ∈ rkP (l.getD i default)
  | 0 => ⟨(fun h => by cases h), (fun ⟨i, h, _⟩ => absurd h (Nat.not_lt_zero _))⟩
  | n + 1 => by
    show x ∈ rkL l n ++ rkP (l.getD n default) ↔ _
    rw [List.mem_append, rkL_mem]
    constructor
    · rintro (⟨i, h1, h2⟩ | h)
      · exact ⟨i, by omega, h2⟩
      · exact ⟨n, by omega, h⟩
    · rintro ⟨i, h1, h2⟩
      by_cases e : i = n
      · subst e; exact .inr h2
      · exact .inl ⟨i, by omega, h2⟩
theorem mkL_iff {l : List Ev} {x : Int} (h : ∀ i, i < l.length → okE (l.getD i default)) : x ∈ mkL l l.length ↔ isM l x := by
  rw [mkL_mem]
  exact ⟨fun ⟨i, h1, h2⟩ => ⟨i, h1, (mkP_iff (h i h1)).1 h2⟩, fun ⟨i, h1, h2⟩ => ⟨i, h1, (mkP_iff (h i h1)).2 h2⟩⟩
theorem rkL_iff {l : List Ev} {x : Int} (h : ∀ i, i < l.length → okE (l.getD i default)) : x ∈ rkL l l.length ↔ isM l x := by
  rw [rkL_mem]
  exact ⟨fun ⟨i, h1, h2⟩ => ⟨i, h1, (rkP_iff (h i h1)).1 h2⟩, fun ⟨i, h1, h2⟩ => ⟨i, h1, (rkP_iff (h i h1)).2 h2⟩⟩
section
variable {a b : List Ev} (ha : ∀ i, i < a.length → okE (a.getD i default)) (hb : ∀ i, i < b.length → okE (b.getD i default))
include ha hb
theorem RM_iff {x : Int} : x ∈ RM a b 2 ↔ x = 0 ∨ isM a x ∨ isM b x := by
  show x ∈ ([0] ++ rkL a a.length) ++ rkL b b.length ↔ _
  rw [List.mem_append, List.mem_append, rkL_iff ha, rkL_iff hb, List.mem_singleton, or_assoc]
omit ha hb in
theorem endB_M (l : List Ev) : endB l l.length = 0 ∨ isM l (endB l l.length) := by
  unfold endB
  by_cases e : l.length = 0
  · rw [if_pos e]; exact .inl rfl
  · rw [if_neg e]; exact .inr ⟨l.length - 1, by omega, .inr rfl⟩
theorem PM_iff {x : Int} : x ∈ PM a b (max (endB a a.length) (endB b b.length)) 2 ↔ x = 0 ∨ isM a x ∨ isM b x := by
  show x ∈ ([0, max (endB a a.length) (endB b b.length)] ++ mkL a a.length) ++ mkL b b.length ↔ _
  rw [List.mem_append, List.mem_append, mkL_iff ha, mkL_iff hb]
  simp only [List.mem_cons, List.not_mem_nil, or_false]
  constructor
  · rintro (((h | h) | h) | h)
    · exact .inl h
    · have h1 := endB_M a
      have h2 := endB_M b
      rcases Int.le_total (endB a a.length) (endB b b.length) with h3 | h3
      · rw [show max (endB a a.length) (endB b b.length) = endB b b.length by omega] at h
        rw [h]
        rcases h2 with h2 | h2
        · exact .inl h2
        · exact .inr (.inr h2)
      · rw [show max (endB a a.length) (endB b b.length) = endB a a.length by omega] at h
        rw [h]
        rcases h1 with h1 | h1
        · exact .inl h1
        · exact .inr (.inl h1)
    · exact .inr (.inl h)
    · exact .inr (.inr h)
  · rintro (h | h | h)
    · exact .inl (.inl (.inl h))
    · exact .inl (.inr h)
    · exact .inr h
theorem SD_same : SD (PM a b (max (endB a a.length) (endB b b.length)) 2) = SD (RM a b 2) := SD_eq (fun x => by rw [PM_iff ha hb, RM_iff ha hb])
theorem S_iff {x : Int} : x ∈ SD (RM a b 2) ↔ x = 0 ∨ isM a x ∨ isM b x := by rw [SD_mem]; exact RM_iff ha hb
omit ha hb in
theorem isM_nn {l : List Ev} {x : Int} (h : ∀ i, i < l.length → okE (l.getD i default)) (hx : isM l x) : 0 ≤ x := by
  obtain ⟨i, h1, h2⟩ := hx
  have := h i h1
  unfold okE at this
  unfold evEnd at h2
  omega
theorem S_nn : ∀ x ∈ SD (RM a b 2), 0 ≤ x := by
  intro x hx
  rcases (S_iff ha hb).1 hx with h | h | h
  · omega
  · exact isM_nn ha h
  · exact isM_nn hb h
omit ha hb in
theorem enK_M (l : List Ev) (m : Int) : ∀ n, n ≤ l.length → enK l m n = m ∨ isM l (enK l m n)
  | 0, _ => .inl rfl
  | n + 1, h => by
    show max (enK l m n) (evEnd (l.getD n default)) = m ∨ isM l (max (enK l m n) (evEnd (l.getD n default)))
    rcases Int.le_total (enK l m n) (evEnd (l.getD n default)) with h3 | h3
    · rw [show max (enK l m n) (evEnd (l.getD n default)) = evEnd (l.getD n default) by omega]
      exact .inr ⟨n, by omega, .inr rfl⟩
    · rw [show max (enK l m n) (evEnd (l.getD n default)) = enK l m n by omega]
      exact enK_M l m n (by omega)
theorem LS_mem : LS a b 2 ∈ SD (RM a b 2) := by
  rw [S_iff ha hb]
  show enK b (enK a 0 a.length) b.length = 0 ∨ _
  rcases enK_M b (enK a 0 a.length) b.length (Nat.le_refl _) with h | h
  · rcases enK_M a 0 a.length (Nat.le_refl _) with h1 | h1
    · exact .inl (h.trans h1)
    · right; left
      show isM a (enK b (enK a 0 a.length) b.length)
      rw [h]; exact h1
  · exact .inr (.inr h)
end
theorem le_last {S : List Int} (h : S.Pairwise (· < ·)) {x : Int} (hx : x ∈ S) : x ≤ S.getD (S.length - 1) 0 := by
  obtain ⟨i, hi, rfl⟩ := List.getElem_of_mem hx
  rw [List.getD_eq_getElem?_getD, List.getElem?_eq_getElem (by omega), Option.getD_some]
  rcases Nat.lt_or_ge i (S.length - 1) with h1 | h1
  · have := List.pairwise_iff_getElem.1 h i (S.length - 1) hi (by omega) h1
    omega
  · have : i = S.length - 1 := by omega
    subst this
    exact Int.le_refl _
/-- a film goes on evenly -/
def shf (d : Int) (x : Sh × Int) : Sh × Int := if x.2 = 0 then ({ x.1 with frame := x.1.frame + d }, 0) else x
theorem fst_even {l : List Ev} {m f : Int} (hmf : m ≤ f) (hno : ∀ x, isM l x → ¬ (m < x ∧ x ≤ f)) (hok : ∀ i, i < l.length → okE (l.getD i default)) : ∀ n, n ≤ l.length → fst l f n = fst l m n
  | 0, _ => rfl
  | n + 1, h => by
    have h1 := hok n (by omega)
    unfold okE at h1
    have h2 := hno (l.getD n default).at_ ⟨n, by omega, .inl (by omega)⟩
    have h3 := hno (evEnd (l.getD n default)) ⟨n, by omega, .inr rfl⟩
    have h4 : hit (l.getD n default) f = hit (l.getD n default) m := by unfold hit; exact decide_eq_decide.2 (by omega)
    unfold fst
    rw [fst_even hmf hno hok n (by omega), h4]
theorem atR_even {l : List Ev} {m f : Int} (hmf : m ≤ f) (hno : ∀ x, isM l x → ¬ (m < x ∧ x ≤ f)) (hok : ∀ i, i < l.length → okE (l.getD i default)) : (atR l f).2 = shf (f - m) (atR l m).2 := by
  by_cases e : m = f
  · subst e
    unfold shf
    rw [Int.sub_self]
    split
    · rename_i h
      rw [Int.add_zero]
      exact Prod.ext rfl h
    · rfl
  have hf := fst_even hmf hno hok l.length (Nat.le_refl _)
  unfold atR
  rw [hf]
  cases h : fst l m l.length with
  | none => rfl
  | some i =>
    obtain ⟨h1, h2, _⟩ := fst_hit h
    have h3 := hok i h1
    unfold okE at h3
    have h4 := of_decide_eq_true h2
    have h5 : (l.getD i default).len ≤ f - (l.getD i default).at_ := by
      rcases (show f - (l.getD i default).at_ < (l.getD i default).len ∨ (l.getD i default).len ≤ f - (l.getD i default).at_ by omega) with h6 | h6
      · exact absurd ⟨by omega, Int.le_refl _⟩ (hno f ⟨i, h1, .inl (by omega)⟩)
      · exact h6
    have h7 : (l.getD i default).len ≤ m - (l.getD i default).at_ := by
      rcases (show m - (l.getD i default).at_ < (l.getD i default).len ∨ (l.getD i default).len ≤ m - (l.getD i default).at_ by omega) with h6 | h6
      · exact absurd ⟨by omega, by omega⟩ (hno ((l.getD i default).at_ + (l.getD i default).len) ⟨i, h1, .inl (by omega)⟩)
      · exact h6
    show (shOf l f i, (0 : Int)) = shf (f - m) (shOf l m i, 0)
    unfold shf
    rw [if_pos rfl]
    unfold shOf
    rw [if_neg (by omega), if_neg (by omega)]
    simp only [Prod.mk.injEq, Sh.mk.injEq, and_true, true_and]
    omega
theorem alk_even {a b : List Ev} {m f : Int} (ha : ∀ i, i < a.length → okE (a.getD i default)) (hb : ∀ i, i < b.length → okE (b.getD i default)) (hmf : m ≤ f) (hn1 : ∀ x, isM a x → ¬ (m < x ∧ x ≤ f)) (hn2 : ∀ x, isM b x → ¬ (m < x ∧ x ≤ f)) (h : alk a b m = true) : (atR a f).2 = (atR b f).2 := by
  rw [atR_even hmf hn1 ha, atR_even hmf hn2 hb, of_decide_eq_true h]
/-- all ends are behind f -/
theorem fst_none {l : List Ev} {f : Int} (h : ∀ i, i < l.length → evEnd (l.getD i default) ≤ f) : ∀ n, n ≤ l.length → fst l f n = none
  | 0, _ => rfl
  | n + 1, hn => fst_no (fst_none h n (by omega)) (by have := h n (by omega); omega)
theorem step_mem {out : List (Int × Int)} {m t : Int} {al : Bool} {p : Int × Int} (h : p ∈ stepR out m t al) : p ∈ out ∨ p = (m, t) ∨ (out.length ≠ 0 ∧ (lastR out).2 = m ∧ p = ((lastR out).1, t)) := by
  unfold stepR at h
  split at h
  · exact .inl h
  · split at h
    · rename_i h1
      rcases List.mem_append.1 h with h2 | h2
      · exact .inl (List.mem_of_mem_take (by rw [← List.dropLast_eq_take]; exact h2))
      · exact .inr (.inr ⟨h1.1, h1.2, List.mem_singleton.1 h2⟩)
    · rcases List.mem_append.1 h with h2 | h2
      · exact .inl h2
      · exact .inr (.inl (List.mem_singleton.1 h2))
theorem lastR_mem {out : List (Int × Int)} (h : out.length ≠ 0) : lastR out ∈ out := by
  have h1 : lastR out ∈ out.dropLast ++ [lastR out] := List.mem_append_right _ (List.mem_singleton.2 rfl)
  rw [← rg_split h] at h1
  exact h1
theorem rng_inv {al : Int → Bool} {S : List Int} (hS : S.Pairwise (· < ·)) : ∀ k, k < S.length → ∀ p ∈ rngs al S k, p.1 ≤ p.2 ∧ p.2 ≤ S.getD k 0
  | 0, _ => fun p hp => by cases hp
  | k + 1, hk => fun p hp => by
    have ih := rng_inv (al := al) hS k (by omega)
    have hlt := sd_lt hS k hk
    have hp2 : p ∈ stepR (rngs al S k) (S.getD k 0) (S.getD (k + 1) 0) (al (S.getD k 0)) := hp
    rcases step_mem hp2 with h | h | ⟨h1, h2, h⟩
    · have := ih p h; omega
    · subst h; exact ⟨by show S.getD k 0 ≤ S.getD (k + 1) 0; omega, Int.le_refl _⟩
    · subst h
      have := ih _ (lastR_mem h1)
      exact ⟨by show (lastR (rngs al S k)).1 ≤ S.getD (k + 1) 0; omega, Int.le_refl _⟩
theorem step_keep {out : List (Int × Int)} {m t : Int} {al : Bool} {p : Int × Int} (h : p ∈ out) (hmt : m ≤ t) : ∃ q ∈ stepR out m t al, q.1 ≤ p.1 ∧ p.2 ≤ q.2 := by
  unfold stepR
  split
  · exact ⟨p, h, Int.le_refl _, Int.le_refl _⟩
  · split
    · rename_i h1
      rw [rg_split h1.1] at h
      rcases List.mem_append.1 h with h2 | h2
      · exact ⟨p, List.mem_append_left _ h2, Int.le_refl _, Int.le_refl _⟩
      · rw [List.mem_singleton] at h2
        subst h2
        exact ⟨_, List.mem_append_right _ (List.mem_singleton.2 rfl), Int.le_refl _, by show (lastR out).2 ≤ t; omega⟩
    · exact ⟨p, List.mem_append_left _ h, Int.le_refl _, Int.le_refl _⟩
theorem step_new {out : List (Int × Int)} {m t : Int} (hl : out.length ≠ 0 → (lastR out).1 ≤ (lastR out).2) : ∃ q ∈ stepR out m t false, q.1 ≤ m ∧ t ≤ q.2 := by
  by_cases h : out.length ≠ 0 ∧ (lastR out).2 = m
  · rw [step_M rfl h.1 h.2]
    have := hl h.1
    exact ⟨_, List.mem_append_right _ (List.mem_singleton.2 rfl), by show (lastR out).1 ≤ m; omega, Int.le_refl _⟩
  · rw [step_A rfl (by by_cases h1 : out.length = 0; exact .inl h1; exact .inr (fun e => h ⟨h1, e⟩))]
    exact ⟨_, List.mem_append_right _ (List.mem_singleton.2 rfl), Int.le_refl _, Int.le_refl _⟩
theorem cover {al : Int → Bool} {S : List Int} (hS : S.Pairwise (· < ·)) {j : Nat} (hal : al (S.getD j 0) = false) : ∀ d, j + 1 + d < S.length → ∃ p ∈ rngs al S (j + 1 + d), p.1 ≤ S.getD j 0 ∧ S.getD (j + 1) 0 ≤ p.2
  | 0, h => by
    have hinv := rng_inv (al := al) hS j (by omega)
    obtain ⟨q, h1, h2, h3⟩ := step_new (out := rngs al S j) (m := S.getD j 0) (t := S.getD (j + 1) 0) (fun h0 => (hinv _ (lastR_mem h0)).1)
    refine ⟨q, ?_, h2, h3⟩
    show q ∈ stepR (rngs al S j) (S.getD j 0) (S.getD (j + 1) 0) (al (S.getD j 0))
    rw [hal]; exact h1
  | d + 1, h => by
    obtain ⟨p, h1, h2, h3⟩ := cover hS hal d (by omega)
    have hlt := sd_lt hS (j + 1 + d) (by omega)
    obtain ⟨q, k1, k2, k3⟩ := step_keep (al := al (S.getD (j + 1 + d) 0)) h1 (Int.le_of_lt hlt)
    exact ⟨q, k1, by omega, by omega⟩
theorem find_j {S : List Int} {f : Int} (h0 : S.getD 0 0 ≤ f) : ∀ n, n < S.length → ∃ j, j ≤ n ∧ S.getD j 0 ≤ f ∧ (j = n ∨ f < S.getD (j + 1) 0)
  | 0, _ => ⟨0, Nat.le_refl _, h0, .inl rfl⟩
  | n + 1, hn => by
    obtain ⟨j, h1, h2, h3⟩ := find_j h0 n (by omega)
    rcases h3 with h3 | h3
    · subst h3
      by_cases h4 : S.getD (j + 1) 0 ≤ f
      · exact ⟨j + 1, Nat.le_refl _, h4, .inl rfl⟩
      · exact ⟨j, by omega, h2, .inr (by omega)⟩
    · exact ⟨j, by omega, h2, .inr h3⟩
/-- THE LAW: at a frame in none of the ranges both films have the same. -/
theorem same_at {a b : List Ev} {f : Int} (ha : ∀ i, i < a.length → okE (a.getD i default)) (hb : ∀ i, i < b.length → okE (b.getD i default)) (hf : 0 ≤ f)
    (hno : ∀ p ∈ rngs (alk a b) (SD (RM a b 2)) ((SD (RM a b 2)).length - 1), ¬ (p.1 ≤ f ∧ f < p.2)) : (atR a f).2 = (atR b f).2 := by
  have hiff := fun x => S_iff ha hb (x := x)
  have hlt := SD_lt (RM a b 2)
  have hnn := S_nn ha hb
  have hne := SD_ne (RM_zero a b 2)
  have hz : (0 : Int) ∈ SD (RM a b 2) := (hiff 0).2 (.inl rfl)
  generalize SD (RM a b 2) = S at *
  have h00 : S.getD 0 0 ≤ f := by
    obtain ⟨i, hi, he⟩ := List.getElem_of_mem hz
    have h0 : S.getD 0 0 = S[0] := by rw [List.getD_eq_getElem?_getD, List.getElem?_eq_getElem (by omega)]; rfl
    rcases Nat.eq_zero_or_pos i with e | e
    · subst e; omega
    · have := List.pairwise_iff_getElem.1 hlt 0 i (by omega) hi e
      omega
  obtain ⟨j, h1, h2, h3⟩ := find_j h00 (S.length - 1) (by omega)
  by_cases hj : j = S.length - 1
  · have hend : ∀ l : List Ev, (∀ x, isM l x → x ∈ S) → ∀ i, i < l.length → evEnd (l.getD i default) ≤ f := by
      intro l hl i hi
      have h4 := le_last hlt (hl _ ⟨i, hi, .inr rfl⟩)
      rw [← hj] at h4; omega
    rw [atR_none (fst_none (hend a (fun x hx => (hiff x).2 (.inr (.inl hx)))) _ (Nat.le_refl _)), atR_none (fst_none (hend b (fun x hx => (hiff x).2 (.inr (.inr hx)))) _ (Nat.le_refl _))]
  · have h4 : f < S.getD (j + 1) 0 := by
      rcases h3 with h3 | h3
      · exact absurd h3 hj
      · exact h3
    have hgap : ∀ x, x ∈ S → ¬ (S.getD j 0 < x ∧ x ≤ f) := by
      rintro x hx ⟨k1, k2⟩
      obtain ⟨i, hi, rfl⟩ := List.getElem_of_mem hx
      have ej : S.getD j 0 = S[j]'(by omega) := by rw [List.getD_eq_getElem?_getD, List.getElem?_eq_getElem (by omega)]; rfl
      have ej1 : S.getD (j + 1) 0 = S[j + 1]'(by omega) := by rw [List.getD_eq_getElem?_getD, List.getElem?_eq_getElem (by omega)]; rfl
      rcases Nat.lt_or_ge j i with h5 | h5
      · rcases Nat.lt_or_ge (j + 1) i with h6 | h6
        · have := List.pairwise_iff_getElem.1 hlt (j + 1) i (by omega) hi h6
          omega
        · have : i = j + 1 := by omega
          subst this
          omega
      · rcases Nat.lt_or_ge i j with h6 | h6
        · have := List.pairwise_iff_getElem.1 hlt i j hi (by omega) h6
          omega
        · have : i = j := by omega
          subst this
          omega
    by_cases hal : alk a b (S.getD j 0) = true
    · exact alk_even ha hb h2 (fun x hx => hgap x ((hiff x).2 (.inr (.inl hx)))) (fun x hx => hgap x ((hiff x).2 (.inr (.inr hx)))) hal
    · exfalso
      have hal2 : alk a b (S.getD j 0) = false := by cases h : alk a b (S.getD j 0) <;> simp_all
      obtain ⟨p, q1, q2, q3⟩ := cover (al := alk a b) hlt hal2 (S.length - 1 - (j + 1)) (by omega)
      rw [show j + 1 + (S.length - 1 - (j + 1)) = S.length - 1 by omega] at q1
      exact hno p q1 ⟨by omega, by omega⟩
end Go.Proofs.YtapcgokcfmklbaaDoor
