/-
  Contracts: PlanesMatch. Conditions: as each theorem says.
-/
import Derived.Test.YtapcgokcfmklbaaDoorC4
namespace Go.Proofs.YtapcgokcfmklbaaDoor
open Go Go.Proofs Go.RowKit

theorem ok22 : callOK Tryd.prog 22 = true := by kernel_rfl
theorem ok23 : callOK Tryd.prog 23 = true := by kernel_rfl
theorem ok67 : callOK Tryd.prog 67 = true := by kernel_rfl

theorem regErr_small {X Y : Int} {a b : Nat} (ha : 1 ≤ a ∧ a ≤ 8) (hb : 1 ≤ b ∧ b ≤ 8) (hX : -1000 ≤ X ∧ X ≤ 1000) (hY : -1000 ≤ Y ∧ Y ≤ 1000) : regErr X Y a b = 0 := by
  have h5 : a * b ≤ 8 * 8 := Nat.mul_le_mul ha.2 hb.2
  have h6 : ((a * b : Nat) : Int) = (a : Int) * (b : Int) := Int.natCast_mul ..
  unfold regErr outR
  rw [if_neg (by omega), if_neg (by omega), if_neg (by simp; omega)]
theorem fit' (x y wi he : Int) (A : Option Addr) (n c : Nat) (xs : List Nat) (W : World) (hn : xs.length = n) (hA : FS W A xs) (hlx : n ≤ maxLen) : Fn_ Tryd.prog 56 #[.agg #[iv x, iv y, iv wi, iv he, .slice A n c]] W (fun v H =>
    ∃ (g : Nat) (X Y : Int) (a b : Nat) (ys : List Nat), v = .agg #[iv X, iv Y, iv (a : Int), iv (b : Int), .slice (some ⟨g, 0, none⟩) ys.length ys.length] ∧ H = [⟨g, 36, ys.map flt⟩] ∧
      ys.length = 4 * (a * b) ∧ (1 ≤ a ∧ a ≤ 8) ∧ (1 ≤ b ∧ b ≤ 8) ∧ (-1000 ≤ X ∧ X ≤ 1000) ∧ (-1000 ≤ Y ∧ Y ≤ 1000) ∧ a * b ≤ 64) := by
  refine (fit x y wi he A n c xs W hn hA hlx).mono fun v H h => ?_
  obtain ⟨g, rfl, rfl⟩ := h
  have h1 := and7_bd wi
  have h2 := and7_bd he
  have h3 := clamp_bd x
  have h4 := clamp_bd y
  obtain ⟨a, ha⟩ : ∃ a : Nat, 1 + and7 wi = (a : Int) := ⟨(1 + and7 wi).toNat, by omega⟩
  obtain ⟨b, hb⟩ : ∃ b : Nat, 1 + and7 he = (b : Int) := ⟨(1 + and7 he).toNat, by omega⟩
  have h7 := fitN_eq wi he
  have h6 : ((a * b : Nat) : Int) = (a : Int) * (b : Int) := Int.natCast_mul ..
  have h8 : fitN wi he = 4 * (a * b) := by rw [ha, hb] at h7; omega
  have h9 : (fitV xs wi he).length = fitN wi he := fitV_len _ _ _
  rw [ha, hb] at h7
  refine ⟨g, clamp x, clamp y, a, b, fitV xs wi he, by rw [ha, hb, h9], rfl, by rw [h9, h8], by omega, by omega, h3, h4, by omega⟩
theorem sameTrue (x y wi he : Int) (A A' : Option Addr) (n n' c c' : Nat) (xs : List Nat) (W : World) (hn : xs.length = n) (hn' : xs.length = n') (hA : FS W A xs) (hA' : FS W A' xs) (hm : n ≤ maxLen) :
    Fn_ Tryd.prog 22 #[.agg #[iv x, iv y, iv wi, iv he, .slice A n c], .agg #[iv x, iv y, iv wi, iv he, .slice A' n' c']] W (fun v H => v = .bool true ∧ H = []) := by
  refine (sameFrame x y wi he x y wi he A A' n n' c c' xs xs W hn hn' hA hA' hm).mono fun v H h => ?_
  obtain ⟨rfl, rfl⟩ := h
  simp
theorem perm5 {α : Type} {a b c d e f : α} {l : List α} : (a :: b :: c :: d :: e :: f :: l).Perm (b :: c :: d :: e :: f :: a :: l) := (List.perm_middle (l₁ := [b, c, d, e, f])).symm
/-- four planes, as far as they are there -/
def gsL (G : Nat → Nat) (m k : Nat) : List Value := (List.range 4).map fun i => if i < k then .slice (some ⟨G i, 0, none⟩) m m else .slice none 0 0
theorem gsL_set (G : Nat → Nat) (m k g : Nat) (hk : k < 4) : (gsL G m k).set k (.slice (some ⟨g, 0, none⟩) m m) = gsL (fun j => if j = k then g else G j) m (k + 1) := by
  unfold gsL
  apply List.ext_getElem?
  intro i
  by_cases hi : i = k
  · subst hi; simp [hk]
  · rw [List.getElem?_set_ne (Ne.symm hi)]
    by_cases hN : i < 4
    · simp [hN, hi]
      have : (i < k ↔ i < k + 1) := by omega
      simp [this]
    · simp [hN]
theorem fpV_planes (ys : List Nat) (m : Nat) (h : ys.length = 4 * m) : fpV (fun i => planeV ys (i : Int) m) (4 * m) = ys.map cl := by
  unfold fpV
  apply List.ext_getElem
  · simp [h]
  · intro i h1 h2
    simp at h1 h2
    have h3 : i / 4 < m := by omega
    have h4 : (planeV ys ((i % 4 : Nat) : Int) m)[i / 4]? = some (planeF ys ((i % 4 : Nat) : Int) (i / 4)) := by
      unfold planeV
      rw [List.getElem?_map, List.getElem?_range h3]; rfl
    have h5 : (4 * ((i / 4 : Nat) : Int) + ((i % 4 : Nat) : Int)).toNat = i := by omega
    simp only [List.getElem_map, List.getElem_range]
    rw [List.getD_eq_getElem?_getD, h4]
    show cl (planeF ys ((i % 4 : Nat) : Int) (i / 4)) = _
    unfold planeF
    rw [cl_cl, h5, getD_at]
theorem FPR.ok {x y : Int} {a b : Nat} {ys : List Nat} {v : Value} {H : HL} (hr : regErr x y a b = 0) (hN : ys.length = 4 * (a * b)) (h : FPR x y a b (fun _ => a * b) (fun i => planeV ys (i : Int) (a * b)) v H) :
    ∃ g, v = .tuple #[.agg #[iv x, iv y, iv (a : Int), iv (b : Int), .slice (some ⟨g, 0, none⟩) ys.length ys.length], iv 0] ∧ H = [⟨g, 36, (ys.map cl).map flt⟩] := by
  have h6 : ((a * b : Nat) : Int) = (a : Int) * (b : Int) := Int.natCast_mul ..
  have h7 : 4 * (a : Int) * (b : Int) = 4 * ((a : Int) * (b : Int)) := Int.mul_assoc ..
  have h0 : fpErr x y a b (fun _ => a * b) = 0 := fpErr_ok hr fun _ _ => h6
  rcases h with ⟨h1, _⟩ | ⟨_, g, N, hNN, rfl, rfl⟩
  · exact absurd h0 h1
  · obtain rfl : N = 4 * (a * b) := by omega
    rw [fpV_planes _ _ hN, ← hN]
    exact ⟨g, rfl, rfl⟩
theorem FPR.any {x y wi he : Int} {n : Nat → Nat} {xs : Nat → List Nat} {v : Value} {H : HL} (h : FPR x y wi he n xs v H) :
    ∃ (x9 y9 w9 h9 : Int) (A9 : Option Addr) (n9 : Nat), v = .tuple #[.agg #[iv x9, iv y9, iv w9, iv h9, .slice A9 n9 n9], iv (fpErr x y wi he n)] ∧ (fpErr x y wi he n ≠ 0 → n9 = 0) := by
  rcases h with ⟨h1, rfl, rfl⟩ | ⟨h1, g, N, hNN, rfl, rfl⟩
  · exact ⟨_, _, _, _, _, _, rfl, fun _ => rfl⟩
  · rw [h1]
    exact ⟨_, _, _, _, _, _, rfl, fun h => absurd rfl h⟩
/-- what the law makes of the planes -/
def wkErr (x y wi he : Int) (n : Nat → Nat) (k : Nat) : Int := if regErr x y wi he ≠ 0 then regErr x y wi he else if (List.range k).all (fun k => decide ((n k : Int) = wi * he)) = true then 0 else 2
theorem wk_start (x y wi he : Int) (n : Nat → Nat) : regErr x y wi he = wkErr x y wi he n 0 := by
  unfold wkErr
  split
  · rfl
  · rename_i h; simpa using h
theorem wk_zero {x y wi he : Int} {n : Nat → Nat} {k : Nat} (h : wkErr x y wi he n k = 0) : regErr x y wi he = 0 := by
  unfold wkErr at h
  split at h
  · exact h
  · rename_i h1; exact Decidable.not_not.1 h1
theorem wk_stay {x y wi he : Int} {n : Nat → Nat} {k : Nat} (h : wkErr x y wi he n k ≠ 0) : wkErr x y wi he n k = wkErr x y wi he n (k + 1) := by
  unfold wkErr at h ⊢
  split
  · rfl
  · rename_i h1
    rw [if_neg h1] at h
    rw [List.range_succ, List.all_append]
    split at h
    · exact absurd rfl h
    · rename_i h2
      rw [if_neg h2, if_neg (by simp only [Bool.and_eq_true]; exact fun h3 => h2 h3.1)]
theorem wk_bad {x y wi he : Int} {n : Nat → Nat} {k : Nat} (h : wkErr x y wi he n k = 0) (hn : (n k : Int) ≠ wi * he) : 2 = wkErr x y wi he n (k + 1) := by
  have h1 := wk_zero h
  unfold wkErr
  rw [if_neg (by simpa using h1), List.range_succ, List.all_append, if_neg (by simp [hn])]
theorem wk_good {x y wi he : Int} {n : Nat → Nat} {k : Nat} (h : wkErr x y wi he n k = 0) (hn : (n k : Int) = wi * he) : wkErr x y wi he n k = wkErr x y wi he n (k + 1) := by
  have h1 := wk_zero h
  rw [h]
  unfold wkErr at h ⊢
  rw [if_neg (by simpa using h1)] at h ⊢
  rw [List.range_succ, List.all_append]
  split at h
  · rename_i h2
    rw [if_pos (by rw [h2]; simp [hn])]
  · cases h
theorem wk_end (x y wi he : Int) (n : Nat → Nat) : wkErr x y wi he n 4 = fpErr x y wi he n := rfl

end Go.Proofs.YtapcgokcfmklbaaDoor
