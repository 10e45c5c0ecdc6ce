/-
  Contracts: frames from planes, frames compared, PlanesMatch. Conditions: as each theorem says.
-/
import Derived.Test.YtapcgokcfmklbaaC3
namespace Go.Proofs.Ytapcgokcfmklbaa
open Go Go.Proofs Go.RowKit

theorem eqt23 : intsT Try.prog 23 = 4 := by kernel_rfl
/-- Planes that come in: four slices. -/
abbrev plsv (A : Nat → Option Addr) (n c : Nat → Nat) : List Value := [.slice (A 0) (n 0) (c 0), .slice (A 1) (n 1) (c 1), .slice (A 2) (n 2) (c 2), .slice (A 3) (n 3) (c 3)]
theorem plsv_at (A : Nat → Option Addr) (n c : Nat → Nat) (k : Nat) (h : k < 4) : (plsv A n c)[k]? = some (.slice (A k) (n k) (c k)) := idx4 (fun k => Value.slice (A k) (n k) (c k)) k h
theorem plsv_ati (A : Nat → Option Addr) (n c : Nat → Nat) (k : Nat) (h : k < 4) : (plsv A n c)[((k : Nat) : Int).toNat]? = some (.slice (A k) (n k) (c k)) := by rw [Int.toNat_natCast]; exact plsv_at A n c k h

/-- what FromPlanes finds -/
def fpErr (x y wi he : Int) (n : Nat → Nat) : Int := if regErr x y wi he ≠ 0 then regErr x y wi he else if (List.range 4).all (fun k => decide ((n k : Int) = wi * he)) = true then 0 else 2
theorem fpErr_reg {x y wi he : Int} {n : Nat → Nat} (h : regErr x y wi he ≠ 0) : fpErr x y wi he n = regErr x y wi he := if_pos h
theorem fpErr_bad {x y wi he : Int} {n : Nat → Nat} {k : Nat} (h : regErr x y wi he = 0) (hk : k < 4) (hn : (n k : Int) ≠ wi * he) : fpErr x y wi he n = 2 := by
  unfold fpErr
  rw [if_neg (by simpa using h), if_neg (fun h1 => hn (by simpa using List.all_eq_true.1 h1 k (List.mem_range.2 hk)))]
theorem fpErr_ok {x y wi he : Int} {n : Nat → Nat} (h : regErr x y wi he = 0) (hn : ∀ k, k < 4 → (n k : Int) = wi * he) : fpErr x y wi he n = 0 := by
  unfold fpErr
  rw [if_neg (by simpa using h), if_pos (List.all_eq_true.2 fun k hk => by simpa using hn k (List.mem_range.1 hk))]
/-- the numbers of a frame of planes -/
def fpV (xs : Nat → List Nat) (N : Nat) : List Nat := (List.range N).map fun i => cl ((xs (i % 4)).getD (i / 4) 0)
def FPR (x y wi he : Int) (n : Nat → Nat) (xs : Nat → List Nat) (v : Value) (H : HL) : Prop :=
  (fpErr x y wi he n ≠ 0 ∧ v = .tuple #[.agg #[iv 0, iv 0, iv 0, iv 0, .slice none 0 0], iv (fpErr x y wi he n)] ∧ H = []) ∨
  (fpErr x y wi he n = 0 ∧ ∃ (g N : Nat), (N : Int) = 4 * wi * he ∧ v = .tuple #[.agg #[iv x, iv y, iv wi, iv he, .slice (some ⟨g, 0, none⟩) N N], iv 0] ∧ H = [⟨g, 29, (fpV xs N).map flt⟩])

theorem take_more {xs ys : List Nat} {k : Nat} (h : xs.take k = ys.take k) (h1 : k < xs.length) (h2 : k < ys.length) (he : ((xs[k] : Nat) : Int) = (ys[k] : Nat)) : xs.take (k + 1) = ys.take (k + 1) := by
  rw [List.take_add_one, List.take_add_one, h, List.getElem?_eq_getElem h1, List.getElem?_eq_getElem h2, Int.ofNat.inj he]
theorem take_whole {xs ys : List Nat} {k : Nat} (h : xs.take k = ys.take k) (h1 : xs.length = k) (h2 : ys.length = k) : xs = ys := by
  rw [List.take_of_length_le (by omega), List.take_of_length_le (by omega)] at h
  exact h

end Go.Proofs.Ytapcgokcfmklbaa
