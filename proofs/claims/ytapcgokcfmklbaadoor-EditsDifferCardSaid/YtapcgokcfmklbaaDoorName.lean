/-
  Plain law of names: which bytes they have; a set of bytes as a table. No program in sight. Conditions: none.
-/
import Derived.Test.YtapcgokcfmklbaaDoorStr
namespace Go.Proofs.YtapcgokcfmklbaaDoor
open Go Go.RowKit

/-- a byte of a name -/
def isNC (b : Nat) : Bool := decide ((97 ≤ b ∧ b ≤ 122) ∨ (65 ≤ b ∧ b ≤ 90) ∨ (48 ≤ b ∧ b ≤ 57) ∨ b = 45 ∨ b = 46 ∨ b = 95)
def nameCS : List UInt8 := 97 :: 98 :: 99 :: 100 :: 101 :: 102 :: 103 :: 104 :: 105 :: 106 :: 107 :: 108 :: 109 :: 110 :: 111 :: 112 :: 113 :: 114 :: 115 :: 116 :: 117 :: 118 :: 119 :: 120 :: 121 :: 122 :: 65 :: 66 :: 67 :: 68 :: 69 :: 70 :: 71 :: 72 :: 73 :: 74 :: 75 :: 76 :: 77 :: 78 :: 79 :: 80 :: 81 :: 82 :: 83 :: 84 :: 85 :: 86 :: 87 :: 88 :: 89 :: 90 :: 48 :: 49 :: 50 :: 51 :: 52 :: 53 :: 54 :: 55 :: 56 :: 57 :: 45 :: 46 :: 95 :: []
/-- is a byte in a list -/
def hasB (cs : List UInt8) (b : Nat) : Bool := cs.any fun c => c.toNat == b
theorem name_set : ∀ b : Nat, b < 256 → hasB nameCS b = isNC b := by decide +kernel
/-- a name -/
def nameB (l : List UInt8) : Bool := decide (l ≠ []) && decide (l.length ≤ 40) && l.all fun b => isNC b.toNat
/-- the table of the first k bytes -/
def asL (cs : List UInt8) (k : Nat) : List Value := (List.range 256).map fun b => .bool (hasB (cs.take k) b)
theorem asL_len (cs : List UInt8) (k : Nat) : (asL cs k).length = 256 := by simp [asL]
theorem asL_zero (cs : List UInt8) : asL cs 0 = List.replicate 256 (.bool false) := by
  unfold asL hasB
  simp only [List.take_zero, List.any_nil]
  apply List.ext_getElem
  · rw [List.length_map, List.length_range, List.length_replicate]
  · intro i h1 h2
    rw [List.getElem_map, List.getElem_replicate]
theorem asL_set {cs : List UInt8} {k : Nat} (hk : k < cs.length) : (asL cs k).set (cs.getD k 0).toNat (.bool true) = asL cs (k + 1) := by
  apply List.ext_getElem
  · simp [asL]
  · intro i h1 h2
    have hi : i < 256 := by simpa [asL] using h2
    rw [List.getElem_set]
    have e : hasB (cs.take (k + 1)) i = (hasB (cs.take k) i || (cs.getD k 0).toNat == i) := by
      unfold hasB
      rw [List.take_succ_eq_append_getElem hk, List.any_append, List.getD_eq_getElem?_getD, List.getElem?_eq_getElem hk]
      simp
    split
    · rename_i h
      simp only [asL, List.getElem_map, List.getElem_range]
      rw [e, h]; simp
    · rename_i h
      simp only [asL, List.getElem_map, List.getElem_range]
      rw [e]
      have : ((cs.getD k 0).toNat == i) = false := by simpa using h
      rw [this, Bool.or_false]
theorem asL_at {cs : List UInt8} {k b : Nat} (h : b < 256) : (asL cs k)[b]? = some (.bool (hasB (cs.take k) b)) := by simp [asL, h]
theorem asL_one (cs : List UInt8) (k : Nat) : (asL cs k).all (·.oneCell') = true := by
  rw [List.all_eq_true]
  intro v hv
  obtain ⟨b, _, rfl⟩ := List.mem_map.1 hv
  rfl
theorem all_drop_last {f : UInt8 → Bool} {l : List UInt8} (h : 0 < l.length) (hf : f (l.getD (l.length - 1) 0) = true) : (l.take (l.length - 1)).all f = l.all f := by
  have e : l = l.take (l.length - 1) ++ [l.getD (l.length - 1) 0] := by
    rw [List.getD_eq_getElem?_getD, List.getElem?_eq_getElem (by omega)]
    have := List.take_succ_eq_append_getElem (l := l) (i := l.length - 1) (by omega)
    rw [show l.length - 1 + 1 = l.length by omega, List.take_length] at this
    exact this
  conv => rhs; rw [e]
  rw [List.all_append]
  simp only [List.all_cons, List.all_nil, Bool.and_true]
  rw [hf, Bool.and_true]
theorem all_drop_first {f : UInt8 → Bool} {l : List UInt8} (h : 0 < l.length) (hf : f (l.getD 0 0) = true) : (l.drop 1).all f = l.all f := by
  cases l with
  | nil => simp at h
  | cons a l =>
    have h2 : f a = true := hf
    simp only [List.drop_succ_cons, List.drop_zero, List.all_cons, h2, Bool.true_and]
theorem first_not {f : UInt8 → Bool} {l : List UInt8} (h : 0 < l.length) (hf : f (l.getD 0 0) = false) : l = [] ↔ l.all f = true := by
  cases l with
  | nil => simp at h
  | cons a l =>
    have h2 : f a = false := hf
    simp [h2]
theorem nil_all {f : UInt8 → Bool} {l : List UInt8} (h : ¬ 0 < l.length) : l = [] ↔ l.all f = true := by
  cases l with
  | nil => simp
  | cons a l => simp at h
theorem Own.cellG {W w : World} {H : HL} (ho : Own W w H) {g : Nat} {t : TypeId} {cs : List Value} (hm : (⟨g, t, cs⟩ : B) ∈ H) {i : Nat} {v : Value} (h : cs[i]? = some v) : w.cell? ⟨g, i, none⟩ = some v :=
  ((ho.blk _ hm).2.cell i).trans h
theorem byte_at {l : List UInt8} {i : Nat} (h : i < l.length) : l[((i : Nat) : Int).toNat]? = some (l.getD i 0) := by
  rw [Int.toNat_natCast, List.getD_eq_getElem?_getD, List.getElem?_eq_getElem h]; rfl
end Go.Proofs.YtapcgokcfmklbaaDoor
