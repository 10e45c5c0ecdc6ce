/-
  Plain functions that the walks speak of: regions, frames of 32-bit floats by their bits. No program in sight. Conditions: none.
-/
import Derived.Test.YtapcgokcfmklbaaDoorAny
namespace Go.Proofs.YtapcgokcfmklbaaDoor
open Go Go.RowKit

abbrev flt (b : Nat) : Value := .float .f32 b
abbrev iv (i : Int) : Value := .int .i64 i
/-- A slice's cells that are floats: nothing is asked of an empty one. -/
def FS (w : World) (A : Option Addr) (xs : List Nat) : Prop :=
  0 < xs.length → ∃ b o, A = some ⟨b, o, none⟩ ∧ ∀ i x, xs[i]? = some x → w.cell? ⟨b, o + i, none⟩ = some (flt x)
theorem FS.own {W w : World} {H : HL} {A : Option Addr} {xs : List Nat} (h : FS W A xs) (ho : Own W w H) : FS w A xs := fun hn => by
  obtain ⟨b, o, h1, h2⟩ := h hn
  exact ⟨b, o, h1, fun i x hi => ho.old (h2 i x hi)⟩
theorem FS.blk {W w : World} {H : HL} {g : Nat} {t : TypeId} {xs : List Nat} {junk : List Value} (ho : Own W w H) (hm : (⟨g, t, xs.map flt ++ junk⟩ : B) ∈ H) : FS w (some ⟨g, 0, none⟩) xs := fun _ => by
  refine ⟨g, 0, rfl, fun i x hi => ?_⟩
  rw [(ho.blk _ hm).2.cell, Nat.zero_add]
  have hl : i < xs.length := (List.getElem?_eq_some_iff.1 hi).1
  have h1 : xs[i] = x := by simpa [hl] using hi
  simp [List.getElem?_append, hl, h1]
theorem FS.blk' {W w : World} {H : HL} {g : Nat} {t : TypeId} {xs : List Nat} (ho : Own W w H) (hm : (⟨g, t, xs.map flt⟩ : B) ∈ H) : FS w (some ⟨g, 0, none⟩) xs :=
  FS.blk (junk := []) ho (by simpa using hm)

def and7 (a : Int) : Int := IntKind.i64.wrap ((BitVec.ofInt 64 a &&& BitVec.ofInt 64 7).toNat : Int)
theorem and7_bd (a : Int) : 0 ≤ and7 a ∧ and7 a ≤ 7 := by
  unfold and7
  have h : (BitVec.ofInt 64 a &&& BitVec.ofInt 64 7).toNat ≤ 7 := by
    rw [BitVec.toNat_and]
    exact Nat.le_trans (Nat.and_le_right) (by decide)
  rw [w64 (by omega) (by omega)]
  omega
theorem QO.and7 {P : Program} {W : World} {H : HL} {e : Env} {x y : Operand} {t t' ty : TypeId} {i : Int} (hx : ev e x = .int .i64 i) (hy : ev e y = .int .i64 7) : QO P W H e (.binOp .and t x y t') ty (.int .i64 (and7 i)) := QO.ibin hx hy (op := .and) trivial

def clamp (a : Int) : Int := min (max a (-1000)) 1000
theorem clamp_bd (a : Int) : -1000 ≤ clamp a ∧ clamp a ≤ 1000 := by unfold clamp; omega
/-- the value that fit gives single i -/
def fitv (xs : List Nat) (i : Nat) : Nat := if 0 < xs.length then xs.getD (i % xs.length) 0 else 0
def fitL (xs : List Nat) (N k : Nat) : List Value := (List.range N).map fun i => flt (if i < k then fitv xs i else 0)
def fitN (wi he : Int) : Nat := (4 * (1 + and7 wi) * (1 + and7 he)).toNat
def fitV (xs : List Nat) (wi he : Int) : List Nat := (List.range (fitN wi he)).map (fitv xs)
theorem fitL_zero (xs : List Nat) (N : Nat) : fitL xs N 0 = List.replicate N (flt 0) := by
  unfold fitL
  apply List.ext_getElem <;> simp
theorem fitL_full (xs : List Nat) (wi he : Int) : fitL xs (fitN wi he) (fitN wi he) = (fitV xs wi he).map flt := by
  unfold fitL fitV
  rw [List.map_map]
  apply List.map_congr_left
  intro i hi
  simp [List.mem_range.1 hi]
theorem fitL_set (xs : List Nat) (N k : Nat) (hk : k < N) : (fitL xs N k).set k (flt (fitv xs k)) = fitL xs N (k + 1) := by
  unfold fitL
  apply List.ext_getElem?
  intro i
  by_cases hi : i = k
  · subst hi; simp [hk]
  · rw [List.getElem?_set_ne (Ne.symm hi)]
    by_cases hN : i < N
    · simp [hN]
      have : (i < k ↔ i < k + 1) := by omega
      simp [this]
    · simp [hN]
theorem fitL_set' (xs : List Nat) (N k x : Nat) (hx : x = fitv xs k) (hk : k < N) : (fitL xs N k).set k (flt x) = fitL xs N (k + 1) := by subst hx; exact fitL_set xs N k hk
theorem fitv_at (xs : List Nat) (k : Nat) (h : k % xs.length < xs.length) : xs[k % xs.length] = fitv xs k := by
  unfold fitv
  rw [if_pos (by omega), List.getD_eq_getElem?_getD, List.getElem?_eq_getElem h]; rfl
theorem fitL_len (xs : List Nat) (N k : Nat) : (fitL xs N k).length = N := by simp [fitL]
theorem fitL_skip (xs : List Nat) (N k : Nat) (hx : xs.length = 0) : fitL xs N k = fitL xs N (k + 1) := by
  unfold fitL
  apply List.map_congr_left
  intro i _
  have : fitv xs i = 0 := by unfold fitv; rw [if_neg (by omega)]
  simp [this]
theorem tmod_cast (a b : Nat) : (a : Int).tmod (b : Int) = ((a % b : Nat) : Int) := by simp [Int.tmod]
theorem mul_bd {a b : Int} (h1 : 1 ≤ a) (h2 : a ≤ 32) (h3 : 1 ≤ b) (h4 : b ≤ 8) : 1 ≤ a * b ∧ a * b ≤ 256 := by
  have h5 : a * 1 ≤ a * b := Int.mul_le_mul_of_nonneg_left h3 (by omega)
  have h6 : a * b ≤ a * 8 := Int.mul_le_mul_of_nonneg_left h4 (by omega)
  omega
/-- A list of floats that is filled up to k. -/
def partL (f : Nat → Nat) (N k : Nat) : List Value := (List.range N).map fun i => flt (if i < k then f i else 0)
theorem partL_zero (f : Nat → Nat) (N : Nat) : partL f N 0 = List.replicate N (flt 0) := by
  unfold partL
  apply List.ext_getElem <;> simp
theorem partL_full (f : Nat → Nat) (N : Nat) : partL f N N = ((List.range N).map f).map flt := by
  unfold partL
  rw [List.map_map]
  apply List.map_congr_left
  intro i hi
  simp [List.mem_range.1 hi]
theorem partL_set (f : Nat → Nat) (N k x : Nat) (hx : x = f k) (hk : k < N) : (partL f N k).set k (flt x) = partL f N (k + 1) := by
  subst hx
  unfold partL
  apply List.ext_getElem?
  intro i
  by_cases hi : i = k
  · subst hi; simp [hk]
  · rw [List.getElem?_set_ne (Ne.symm hi)]
    by_cases hN : i < N
    · simp [hN]
      have : (i < k ↔ i < k + 1) := by omega
      simp [this]
    · simp [hN]
theorem partL_len (f : Nat → Nat) (N k : Nat) : (partL f N k).length = N := by simp [partL]
theorem getD_at (xs : List Nat) (i : Nat) (h : i < xs.length) : xs[i] = xs.getD i 0 := by
  rw [List.getD_eq_getElem?_getD, List.getElem?_eq_getElem h]; rfl
theorem tdiv2 (n : Nat) : ((n : Int)).tdiv 2 = ((n / 2 : Nat) : Int) := by simp [Int.tdiv]
theorem FS.take {W : World} {A : Option Addr} {xs : List Nat} (h : FS W A xs) (k : Nat) : FS W A (xs.take k) := fun hn => by
  obtain ⟨b, o, h1, h2⟩ := h (by simp at hn; omega)
  refine ⟨b, o, h1, fun i x hi => h2 i x ?_⟩
  rw [List.getElem?_take] at hi
  split at hi
  · exact hi
  · cases hi
theorem FS.drop {W : World} {b o c : Nat} {xs : List Nat} (h : FS W (some ⟨b, o, none⟩) xs) (k : Nat) (hc : xs.length ≤ c) : FS W (cutAt b o k c 1) (xs.drop k) := fun hn => by
  simp at hn
  obtain ⟨b', o', h1, h2⟩ := h (by omega)
  injection h1 with h1
  injection h1 with h1 h3
  subst h1 h3
  refine ⟨b, o + k, by rw [cutAt_eq (by omega), Nat.mul_one], fun i x hi => ?_⟩
  rw [List.getElem?_drop] at hi
  rw [Nat.add_assoc]
  exact h2 _ x hi
/-- The places of a plane. -/
def planeF (xs : List Nat) (ch : Int) (i : Nat) : Nat := cl (xs.getD (4 * (i : Int) + ch).toNat 0)
def planeV (xs : List Nat) (ch : Int) (m : Nat) : List Nat := (List.range m).map (planeF xs ch)
theorem planeF_at (xs : List Nat) (ch : Int) (k : Nat) (h : (4 * (k : Int) + ch).toNat < xs.length) : cl xs[(4 * (k : Int) + ch).toNat] = planeF xs ch k := by
  unfold planeF; rw [getD_at]
end Go.Proofs.YtapcgokcfmklbaaDoor
