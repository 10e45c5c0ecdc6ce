/-
  Plain functions: frames made pixel by pixel, and pixels read out of a frame. No program in sight. Conditions: none.
-/
import Derived.Test.YtapcgokcfmklbaaDoorEq
namespace Go.Proofs.YtapcgokcfmklbaaDoor
open Go Go.RowKit

/-- A pixel. -/
abbrev pxv (q : Nat → Nat) : Value := .agg #[flt (q 0), flt (q 1), flt (q 2), flt (q 3)]
theorem idx4 {α : Type} (f : Nat → α) (k : Nat) (h : k < 4) : [f 0, f 1, f 2, f 3][k]? = some (f k) := by
  match k, h with
  | 0, _ => rfl
  | 1, _ => rfl
  | 2, _ => rfl
  | 3, _ => rfl
theorem idx4i {α : Type} (f : Nat → α) (k : Nat) (h : k < 4) : [f 0, f 1, f 2, f 3][((k : Nat) : Int).toNat]? = some (f k) := by rw [Int.toNat_natCast]; exact idx4 f k h
/-- The numbers of a frame that is made pixel by pixel. -/
def madeF (p : Int → Int → Nat → Nat) (x y : Int) (w : Nat) (i : Nat) : Nat := cl (p (x + ((i / 4 % w : Nat) : Int)) (y + ((i / 4 / w : Nat) : Int)) (i % 4))
def madeV (p : Int → Int → Nat → Nat) (x y : Int) (w m : Nat) : List Nat := (List.range m).map (madeF p x y w)
theorem madeF_at {p : Int → Int → Nat → Nat} {x y : Int} {w yy xx c : Nat} (hx : xx < w) (hc : c < 4) : madeF p x y w (4 * (w * yy + xx) + c) = cl (p (x + xx) (y + yy) c) := by
  unfold madeF
  have h1 : (4 * (w * yy + xx) + c) / 4 = w * yy + xx := by omega
  have h2 : (4 * (w * yy + xx) + c) % 4 = c := by omega
  rw [h1, h2, Nat.mul_add_mod, Nat.mod_eq_of_lt hx, Nat.mul_add_div (by omega), Nat.div_eq_of_lt hx, Nat.add_zero]
theorem madeV_succ (p : Int → Int → Nat → Nat) (x y : Int) (w m : Nat) : madeV p x y w (m + 1) = madeV p x y w m ++ [madeF p x y w m] := by simp [madeV, List.range_succ]
theorem madeV_len (p : Int → Int → Nat → Nat) (x y : Int) (w m : Nat) : (madeV p x y w m).length = m := by simp [madeV]
def near (x X : Int) (w : Nat) : Int := min (max X x) (x + w - 1)
theorem near_bd {x X : Int} {w : Nat} (hw : 1 ≤ w) : ∃ i : Nat, i < w ∧ near x X w = x + i := ⟨(near x X w - x).toNat, by unfold near; omega, by unfold near; omega⟩
theorem near_in {x X : Int} {w : Nat} (h1 : x ≤ X) (h2 : X < x + w) : near x X w = X := by unfold near; omega
/-- A number of a pixel of a frame. -/
def pixF (xs : List Nat) (x y : Int) (w h : Nat) (X Y : Int) (c : Nat) : Nat := xs.getD (4 * ((near y Y h - y).toNat * w + (near x X w - x).toNat) + c) 0
theorem pixF_at {xs : List Nat} {x y : Int} {w h : Nat} {X Y : Int} {i j : Nat} (hi : near x X w = x + i) (hj : near y Y h = y + j) (c : Nat) : pixF xs x y w h X Y c = xs.getD (4 * (j * w + i) + c) 0 := by
  unfold pixF
  rw [hi, hj, show (y + (j : Int) - y).toNat = j by omega, show (x + (i : Int) - x).toNat = i by omega]
/-- pixels of a frame, made anew: its numbers. -/
theorem madeF_pix {xs : List Nat} {x y : Int} {w h : Nat} {i : Nat} (hi : i < 4 * (w * h)) (T : Nat → (Nat → Nat) → Nat) :
    madeF (fun X Y c => T c (pixF xs x y w h X Y)) x y w i = cl (T (i % 4) fun c => xs.getD (4 * (i / 4) + c) 0) := by
  unfold madeF
  have hw : 0 < w := by
    rcases Nat.eq_zero_or_pos w with h0 | h0
    · subst h0; simp at hi
    · exact h0
  have h1 : i / 4 / w < h := by rw [Nat.div_lt_iff_lt_mul hw, Nat.mul_comm]; omega
  have h2 : i / 4 % w < w := Nat.mod_lt _ hw
  show cl (T (i % 4) (pixF xs x y w h _ _)) = _
  congr 2
  funext c
  rw [pixF_at (i := i / 4 % w) (j := i / 4 / w) (near_in (Int.le_add_of_nonneg_right (Int.natCast_nonneg _)) (Int.add_lt_add_left (Int.ofNat_lt.2 h2) x)) (near_in (Int.le_add_of_nonneg_right (Int.natCast_nonneg _)) (Int.add_lt_add_left (Int.ofNat_lt.2 h1) y)), Nat.div_add_mod' (i / 4) w]
/-- the numbers of a block that is in the middle of a frame -/
theorem pix_bd {w h i j : Nat} (hi : i < w) (hj : j < h) : (j : Int) * (w : Int) + w ≤ (w : Int) * (h : Int) ∧ 0 ≤ (j : Int) * (w : Int) ∧ j * w + i < w * h := by
  have h1 : (j + 1) * w ≤ h * w := Nat.mul_le_mul_right w hj
  rw [Nat.add_mul, Nat.one_mul, Nat.mul_comm h w] at h1
  have h2 : ((j * w : Nat) : Int) = (j : Int) * (w : Int) := Int.natCast_mul ..
  have h3 : ((w * h : Nat) : Int) = (w : Int) * (h : Int) := Int.natCast_mul ..
  omega
end Go.Proofs.YtapcgokcfmklbaaDoor
