/-
  Contracts: frames made pixel by pixel, number by number; frames compared. Conditions: as each theorem says.
-/
import Derived.Test.YtapcgokcfmklbaaC2
import Derived.Test.YtapcgokcfmklbaaPix
namespace Go.Proofs.Ytapcgokcfmklbaa
open Go Go.Proofs Go.RowKit

theorem pl26 : places Try.prog 26 = some #[(0, 4), (4, 1)] := by kernel_rfl
/-- A frame that a call hands back: its numbers stand in a block of its own. -/
def MadeR (x y wi he : Int) (vals : List Nat) (v : Value) (H : HL) : Prop := ∃ g cap junk, v = .agg #[iv x, iv y, iv wi, iv he, .slice (some ⟨g, 0, none⟩) vals.length cap] ∧ H = [⟨g, 29, vals.map flt ++ junk⟩] ∧ vals.length ≤ cap ∧ cap ≤ maxLen
theorem Own.cellAt {W w : World} {H : HL} {g : Nat} {t : TypeId} {cs : List Value} (ho : Own W w H) (hm : (⟨g, t, cs⟩ : B) ∈ H) {j : Nat} {v : Value} (hj : cs[j]? = some v) : w.cell? ((⟨g, 0, none⟩ : Addr).add j) = some v := by
  rw [addr_add, (ho.blk _ hm).2.cell, Nat.zero_add]; exact hj
theorem Own.cell0 {W w : World} {H : HL} {g : Nat} {t : TypeId} {cs : List Value} (ho : Own W w H) (hm : (⟨g, t, cs⟩ : B) ∈ H) {j : Nat} {v : Value} (hj : cs[j]? = some v) : w.cell? ⟨g, j, none⟩ = some v := by
  rw [(ho.blk _ hm).2.cell]; exact hj
/-- the numbers of a frame whose pixels are turned one by one -/
def eachV (T : Nat → (Nat → Nat) → Nat) (xs : List Nat) (m : Nat) : List Nat := (List.range m).map fun i => cl (T (i % 4) fun c => xs.getD (4 * (i / 4) + c) 0)
theorem madeV_each (xs : List Nat) (x y : Int) (a b : Nat) (T : Nat → (Nat → Nat) → Nat) : madeV (fun X Y c => T c (pixF xs x y a b X Y)) x y a (4 * (a * b)) = eachV T xs (4 * (a * b)) := by
  unfold madeV eachV
  exact List.map_congr_left fun i hi => madeF_pix (List.mem_range.1 hi) T
theorem eachV_id (xs : List Nat) (m : Nat) (h : xs.length = m) : eachV (fun c q => q c) xs m = xs.map cl := by
  unfold eachV
  apply List.ext_getElem
  · simp [h]
  · intro i h1 h2
    simp at h1 h2
    simp only [List.getElem_map, List.getElem_range]
    rw [Nat.div_add_mod, getD_at]
theorem tdiv4 (n : Nat) : ((n : Int)).tdiv 4 = ((n / 4 : Nat) : Int) := by simp [Int.tdiv]
theorem tmod4 (n : Nat) : ((n : Int)).tmod 4 = ((n % 4 : Nat) : Int) := tmod_cast n 4

end Go.Proofs.Ytapcgokcfmklbaa
