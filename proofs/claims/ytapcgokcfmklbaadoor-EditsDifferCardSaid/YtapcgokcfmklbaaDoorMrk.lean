/-
  Marks of edit lists: sorted, each once; where two films differ. No program in sight. Conditions: none.
-/
import Derived.Test.YtapcgokcfmklbaaDoorSrt
import Derived.Test.YtapcgokcfmklbaaDoorDif
namespace Go.Proofs.YtapcgokcfmklbaaDoor
open Go Go.RowKit

theorem cmp_mem1 {zs : List Int} {x : Int} (h : x ∈ cmpI zs) : x ∈ zs := by
  unfold cmpI Lib.compact Lib.compactUpTo at h
  rw [List.mem_map] at h
  obtain ⟨j, hj, rfl⟩ := h
  have hj2 := List.mem_range.1 (List.mem_filter.1 hj).1
  simp [hj2]
theorem keep_back {zs : List Int} : ∀ j, j < zs.length → ∃ i, i ≤ j ∧ Lib.keeps zs.toArray i = true ∧ zs.toArray[i]! = zs.toArray[j]!
  | 0, _ => ⟨0, Nat.le_refl _, Lib.keeps_lt_one _ 0 (by omega), rfl⟩
  | j + 1, h => by
    by_cases hk : Lib.keeps zs.toArray (j + 1) = true
    · exact ⟨j + 1, Nat.le_refl _, hk, rfl⟩
    · obtain ⟨i, h1, h2, h3⟩ := keep_back (zs := zs) j (by omega)
      refine ⟨i, by omega, h2, ?_⟩
      rw [h3]
      by_cases e : zs.toArray[j + 1]! = zs.toArray[j + 1 - 1]!
      · exact e.symm
      · exact absurd (Lib.keeps_pos e) hk
theorem cmp_mem2 {zs : List Int} {x : Int} (h : x ∈ zs) : x ∈ cmpI zs := by
  obtain ⟨j, hj, rfl⟩ := List.getElem_of_mem h
  obtain ⟨i, h1, h2, h3⟩ := keep_back (zs := zs) j hj
  unfold cmpI Lib.compact Lib.compactUpTo
  rw [List.mem_map]
  refine ⟨i, List.mem_filter.2 ⟨List.mem_range.2 (by omega), h2⟩, ?_⟩
  rw [h3]; simp [hj]
theorem cmp_lt {zs : List Int} (hs : zs.Pairwise (· ≤ ·)) : (cmpI zs).Pairwise (· < ·) := by
  unfold cmpI Lib.compact Lib.compactUpTo
  rw [List.pairwise_map]
  have h0 : ((List.range zs.length).filter (Lib.keeps zs.toArray)).Pairwise (· < ·) := List.Pairwise.filter _ (List.pairwise_lt_range ..)
  refine List.Pairwise.imp_of_mem (fun {i j} hi hj hij => ?_) h0
  have hj1 := List.mem_range.1 (List.mem_filter.1 hj).1
  have hj2 := (List.mem_filter.1 hj).2
  have mono : ∀ a b, a ≤ b → b < zs.length → zs.toArray[a]! ≤ zs.toArray[b]! := by
    intro a b hab hb
    have ea : zs.toArray[a]! = zs[a]'(by omega) := by simp [show a < zs.length by omega]
    have eb : zs.toArray[b]! = zs[b]'hb := by simp [hb]
    rw [ea, eb]
    rcases Nat.lt_or_ge a b with h | h
    · exact List.pairwise_iff_getElem.1 hs a b (by omega) hb h
    · obtain rfl : a = b := by omega
      exact Int.le_refl _
  have h1 := mono i (j - 1) (by omega) (by omega)
  have h2 := mono (j - 1) j (by omega) hj1
  by_cases e : zs.toArray[j]! = zs.toArray[j - 1]!
  · rw [Lib.keeps_neg (by omega) e] at hj2; cases hj2
  · omega
/-- sorted, each once -/
def SD (zs : List Int) : List Int := cmpI (srt zs)
theorem SD_mem {zs : List Int} {x : Int} : x ∈ SD zs ↔ x ∈ zs := by
  unfold SD srt
  constructor
  · intro h; exact List.mem_mergeSort.1 (cmp_mem1 h)
  · intro h; exact cmp_mem2 (List.mem_mergeSort.2 h)
theorem SD_lt (zs : List Int) : (SD zs).Pairwise (· < ·) := by
  refine cmp_lt ?_
  have h := List.pairwise_mergeSort (le := fun x y : Int => decide (x ≤ y)) (fun a b c h1 h2 => by simp at *; omega) (fun a b => by simp; omega) zs
  exact List.Pairwise.imp (fun h => by simpa using h) h
theorem lt_uniq : ∀ {xs ys : List Int}, xs.Pairwise (· < ·) → ys.Pairwise (· < ·) → (∀ x, x ∈ xs ↔ x ∈ ys) → xs = ys
  | [], [], _, _, _ => rfl
  | [], y :: ys, _, _, h => absurd ((h y).2 (List.mem_cons_self ..)) (by simp)
  | x :: xs, [], _, _, h => absurd ((h x).1 (List.mem_cons_self ..)) (by simp)
  | x :: xs, y :: ys, h1, h2, h => by
    have k1 := List.pairwise_cons.1 h1
    have k2 := List.pairwise_cons.1 h2
    have e : x = y := by
      have hx := List.mem_cons.1 ((h x).1 (List.mem_cons_self ..))
      have hy := List.mem_cons.1 ((h y).2 (List.mem_cons_self ..))
      rcases hx with hx | hx
      · exact hx
      · rcases hy with hy | hy
        · exact hy.symm
        · have := k2.1 x hx
          have := k1.1 y hy
          omega
    subst e
    rw [lt_uniq k1.2 k2.2 (fun z => ?_)]
    have hz := h z
    rw [List.mem_cons, List.mem_cons] at hz
    constructor
    · intro hm
      rcases hz.1 (.inr hm) with e | h3
      · have := k1.1 z hm; omega
      · exact h3
    · intro hm
      rcases hz.2 (.inr hm) with e | h3
      · have := k2.1 z hm; omega
      · exact h3
theorem SD_eq {xs ys : List Int} (h : ∀ x, x ∈ xs ↔ x ∈ ys) : SD xs = SD ys := lt_uniq (SD_lt xs) (SD_lt ys) (fun x => by rw [SD_mem, SD_mem]; exact h x)
/-- marks of an event, of the first k events -/
def mkD (e : Ev) (q : Nat) : List Int := [e.at_, evEnd e] ++ (List.range q).map fun k => e.at_ + ((k + 1 : Nat) : Int)
def mkP (e : Ev) : List Int := mkD e e.len.toNat
def mkL (l : List Ev) : Nat → List Int
  | 0 => []
  | k + 1 => mkL l k ++ mkP (l.getD k default)
def T2 {α : Type} (x y : α) (s : Nat) : α := if s = 0 then x else y
/-- the marks that the program gathers -/
def PM (a b : List Ev) (M : Int) : Nat → List Int
  | 0 => [0, M]
  | s + 1 => PM a b M s ++ mkL (T2 a b s) (T2 a b s).length
/-- .. and the reference -/
def rkD (e : Ev) (q : Nat) : List Int := [e.at_, evEnd e] ++ (List.range q).map fun (k : Nat) => e.at_ + (k : Int)
def rkP (e : Ev) : List Int := rkD e (e.len + 1).toNat
def rkL (l : List Ev) : Nat → List Int
  | 0 => []
  | k + 1 => rkL l k ++ rkP (l.getD k default)
def RM (a b : List Ev) : Nat → List Int
  | 0 => [0]
  | s + 1 => RM a b s ++ rkL (T2 a b s) (T2 a b s).length
theorem mkD_succ (e : Ev) (q : Nat) : mkD e q ++ [e.at_ + ((q + 1 : Nat) : Int)] = mkD e (q + 1) := by
  unfold mkD; rw [List.range_succ, List.map_append, List.append_assoc]; rfl
theorem rkD_succ (e : Ev) (q : Nat) : rkD e q ++ [e.at_ + (q : Int)] = rkD e (q + 1) := by
  unfold rkD; rw [List.range_succ, List.map_append, List.append_assoc]; rfl
theorem mkD_len (e : Ev) (q : Nat) : (mkD e q).length = q + 2 := by simp [mkD]
theorem rkD_len (e : Ev) (q : Nat) : (rkD e q).length = q + 2 := by simp [rkD]
/-- what a film's marks are made of -/
def okE (e : Ev) : Prop := 0 ≤ e.at_ ∧ e.at_ ≤ 16777216 ∧ 0 ≤ e.inn ∧ e.inn < e.out ∧ e.out ≤ 16777216 ∧ 0 ≤ e.len ∧ e.len ≤ 250 ∧ e.len ≤ e.out - e.inn
theorem okE_of {t : List UInt8} {r : Int} {l : List Ev} (h : edE t r l = 0) {i : Nat} (hi : i < l.length) : okE (l.getD i default) := by
  have := evE1_ok ((edE_ok h).2.2.2 i hi)
  unfold okE
  omega
theorem mkL_len {l : List Ev} (h : ∀ i, i < l.length → okE (l.getD i default)) : ∀ k, k ≤ l.length → (mkL l k).length ≤ 252 * k
  | 0, _ => Nat.le_refl _
  | k + 1, hk => by
    have h1 := mkL_len h k (by omega)
    have h2 := h k (by omega)
    unfold okE at h2
    show (mkL l k ++ mkP (l.getD k default)).length ≤ _
    rw [List.length_append]
    unfold mkP; rw [mkD_len]; omega
theorem rkL_len {l : List Ev} (h : ∀ i, i < l.length → okE (l.getD i default)) : ∀ k, k ≤ l.length → (rkL l k).length ≤ 253 * k
  | 0, _ => Nat.le_refl _
  | k + 1, hk => by
    have h1 := rkL_len h k (by omega)
    have h2 := h k (by omega)
    unfold okE at h2
    show (rkL l k ++ rkP (l.getD k default)).length ≤ _
    rw [List.length_append]
    unfold rkP; rw [rkD_len]; omega
theorem T2_all {a b : List Ev} {P : List Ev → Prop} (ha : P a) (hb : P b) (s : Nat) : P (T2 a b s) := by unfold T2; split <;> assumption
theorem PM_len {a b : List Ev} {M : Int} (ha : ∀ i, i < a.length → okE (a.getD i default)) (hb : ∀ i, i < b.length → okE (b.getD i default)) (la : a.length ≤ 500) (lb : b.length ≤ 500) : ∀ s, (PM a b M s).length ≤ 2 + 126000 * s
  | 0 => by simp [PM]
  | s + 1 => by
    have h1 := PM_len ha hb la lb (M := M) s
    have h2 := mkL_len (T2_all (P := fun l => ∀ i, i < l.length → okE (l.getD i default)) ha hb s) _ (Nat.le_refl _)
    have h3 : (T2 a b s).length ≤ 500 := T2_all (P := fun l => l.length ≤ 500) la lb s
    show (PM a b M s ++ mkL (T2 a b s) (T2 a b s).length).length ≤ _
    rw [List.length_append]; omega
theorem RM_len {a b : List Ev} (ha : ∀ i, i < a.length → okE (a.getD i default)) (hb : ∀ i, i < b.length → okE (b.getD i default)) (la : a.length ≤ 500) (lb : b.length ≤ 500) : ∀ s, (RM a b s).length ≤ 2 + 126500 * s
  | 0 => by simp [RM]
  | s + 1 => by
    have h1 := RM_len ha hb la lb s
    have h2 := rkL_len (T2_all (P := fun l => ∀ i, i < l.length → okE (l.getD i default)) ha hb s) _ (Nat.le_refl _)
    have h3 : (T2 a b s).length ≤ 500 := T2_all (P := fun l => l.length ≤ 500) la lb s
    show (RM a b s ++ rkL (T2 a b s) (T2 a b s).length).length ≤ _
    rw [List.length_append]; omega
end Go.Proofs.YtapcgokcfmklbaaDoor
