/-
  Plain functions: rows of numbers of which some are taken from elsewhere; frames cut and pasted. No program in sight. Conditions: none.
-/
import Derived.Test.YtapcgokcfmklbaaDoorPix
import Derived.Test.YtapcgokcfmklbaaDoorTile
namespace Go.Proofs.YtapcgokcfmklbaaDoor
open Go Go.RowKit

def mixL (N : Nat) (P : Nat → Bool) (f : Nat → Nat) (ys : List Nat) : List Nat := (List.range N).map fun i => if P i then f i else ys.getD i 0
theorem mixL_len (N : Nat) (P : Nat → Bool) (f : Nat → Nat) (ys : List Nat) : (mixL N P f ys).length = N := by simp [mixL]
theorem mixL_congr {N : Nat} {P P' : Nat → Bool} {f : Nat → Nat} {ys : List Nat} (h : ∀ i, i < N → P i = P' i) : mixL N P f ys = mixL N P' f ys := by
  unfold mixL
  apply List.map_congr_left
  intro i hi
  simp only [h i (List.mem_range.1 hi)]
theorem mixL_none {N : Nat} {P : Nat → Bool} {f : Nat → Nat} {ys : List Nat} (hl : ys.length = N) (h : ∀ i, i < N → P i = false) : mixL N P f ys = ys := by
  unfold mixL
  apply List.ext_getElem
  · simp [hl]
  · intro i h1 h2
    simp only [List.getElem_map, List.getElem_range]
    rw [h i (by omega)]
    simp [List.getD, h2]
theorem mixL_set {N n x : Nat} {P : Nat → Bool} {f : Nat → Nat} {ys : List Nat} (hx : x = f n) : ((mixL N P f ys).map flt).set n (flt x) = (mixL N (fun i => P i || i == n) f ys).map flt := by
  subst hx
  apply List.ext_getElem
  · simp [mixL]
  · intro i h1 h2
    have hi : i < N := by simpa [mixL] using h2
    rw [List.getElem_set]
    split
    · rename_i he; subst he; simp [mixL]
    · rename_i he
      have h3 : ¬ i = n := fun h => he h.symm
      simp [mixL, h3]
/-- the i-th number stands in a rectangle of pixels (columns p .. p + w, rows q .. q + j), or is one of the first k of its row q + j -/
def inP (a p w q j k : Nat) (i : Nat) : Bool := decide ((q ≤ i / 4 / a ∧ i / 4 / a < q + j ∧ p ≤ i / 4 % a ∧ i / 4 % a < p + w) ∨ (i / 4 / a = q + j ∧ p ≤ i / 4 % a ∧ 4 * (i / 4 % a) + i % 4 < 4 * p + k))
theorem inP_zero (a p w q : Nat) (i : Nat) : inP a p w q 0 0 i = false := by
  unfold inP
  rw [decide_eq_false]
  omega
theorem inP_row {a p w q j : Nat} (i : Nat) : inP a p w q j (4 * w) i = inP a p w q (j + 1) 0 i := by
  unfold inP
  congr 1
  apply propext
  have := Nat.mod_lt i (show 0 < 4 by omega)
  omega
theorem pos_of {a i : Nat} (ha : 0 < a) : i = 4 * (a * (i / 4 / a) + i / 4 % a) + i % 4 ∧ i / 4 % a < a ∧ i % 4 < 4 := ⟨by
  have h1 := Nat.div_add_mod (i / 4) a
  have h2 := Nat.div_add_mod i 4
  rw [h1]; omega, Nat.mod_lt _ ha, Nat.mod_lt _ (by omega)⟩
theorem place_of {a c r x : Nat} (hc : c < a) (hx : x < 4) : (4 * (a * r + c) + x) / 4 / a = r ∧ (4 * (a * r + c) + x) / 4 % a = c ∧ (4 * (a * r + c) + x) % 4 = x := by
  have h1 : (4 * (a * r + c) + x) / 4 = a * r + c := by omega
  rw [h1, Nat.mul_add_mod, Nat.mod_eq_of_lt hc, Nat.mul_add_div (by omega), Nat.div_eq_of_lt hc]
  omega
theorem inP_step {a p w q j k : Nat} (hp : p + w ≤ a) (hk : k < 4 * w) (i : Nat) : (inP a p w q j k i || i == 4 * (a * (q + j) + (p + k / 4)) + k % 4) = inP a p w q j (k + 1) i := by
  have ha : 0 < a := by omega
  have hk4 : p + k / 4 < a := by omega
  have hkm : k % 4 < 4 := by omega
  have hn := place_of (a := a) (c := p + k / 4) (r := q + j) (x := k % 4) hk4 hkm
  have hi := pos_of (i := i) ha
  have key : (i == 4 * (a * (q + j) + (p + k / 4)) + k % 4) = decide (i / 4 / a = q + j ∧ i / 4 % a = p + k / 4 ∧ i % 4 = k % 4) := by
    rw [Bool.eq_iff_iff, beq_iff_eq, decide_eq_true_eq]
    refine ⟨fun h => ?_, fun h => ?_⟩
    · subst h; exact hn
    · rw [hi.1, h.1, h.2.1, h.2.2]
  rw [key]
  unfold inP
  rw [Bool.eq_iff_iff, Bool.or_eq_true, decide_eq_true_eq, decide_eq_true_eq, decide_eq_true_eq]
  omega
/-- is a pixel in a region -/
def atB (x y X Y W H : Int) : Bool := decide (X ≤ x ∧ Y ≤ y ∧ x ≤ X + W - 1 ∧ y ≤ Y + H - 1)
/-- what is common, by columns and rows of the first frame -/
theorem inP_all {X Y X2 Y2 : Int} {a b a2 b2 p q w h i : Nat} (hi : i < 4 * (a * b)) (hp : max X X2 = X + p) (hq : max Y Y2 = Y + q) (hw : min (X + a) (X2 + a2) = X + p + w) (hh : min (Y + b) (Y2 + b2) = Y + q + h) :
    inP a p w q h 0 i = atB (X + ((i / 4 % a : Nat) : Int)) (Y + ((i / 4 / a : Nat) : Int)) X2 Y2 a2 b2 := by
  have ha : 0 < a := by
    rcases Nat.eq_zero_or_pos a with h0 | h0
    · subst h0; simp at hi
    · exact h0
  have h1 : i / 4 / a < b := by rw [Nat.div_lt_iff_lt_mul ha, Nat.mul_comm]; omega
  have h2 : i / 4 % a < a := Nat.mod_lt _ ha
  unfold inP atB
  congr 1
  apply propext
  generalize i / 4 / a = r at *
  generalize i / 4 % a = c at *
  omega
/-- the frame with another one laid over it -/
def overV (ys zs : List Nat) (X Y : Int) (a b : Nat) (X2 Y2 : Int) (a2 b2 : Nat) : List Nat :=
  mixL (4 * (a * b)) (fun i => atB (X + ((i / 4 % a : Nat) : Int)) (Y + ((i / 4 / a : Nat) : Int)) X2 Y2 a2 b2) (madeF (pixF zs X2 Y2 a2 b2) X Y a) ys
theorem overV_len (ys zs : List Nat) (X Y : Int) (a b : Nat) (X2 Y2 : Int) (a2 b2 : Nat) : (overV ys zs X Y a b X2 Y2 a2 b2).length = 4 * (a * b) := mixL_len ..
theorem overV_apart {ys zs : List Nat} {X Y X2 Y2 : Int} {a b a2 b2 : Nat} (hl : ys.length = 4 * (a * b)) (h : min (X + a) (X2 + a2) - max X X2 < 1 ∨ min (Y + b) (Y2 + b2) - max Y Y2 < 1) : overV ys zs X Y a b X2 Y2 a2 b2 = ys := by
  refine mixL_none hl fun i hi => ?_
  have ha : 0 < a := by
    rcases Nat.eq_zero_or_pos a with h0 | h0
    · subst h0; simp at hi
    · exact h0
  have h1 : i / 4 / a < b := by rw [Nat.div_lt_iff_lt_mul ha, Nat.mul_comm]; omega
  have h2 : i / 4 % a < a := Nat.mod_lt _ ha
  unfold atB
  apply decide_eq_false
  generalize i / 4 / a = r at *
  generalize i / 4 % a = c at *
  omega
/-- a pixel pasted -/
def pasteF (xs zs : List Nat) (X Y : Int) (a b : Nat) (X2 Y2 : Int) (a2 b2 : Nat) (x y : Int) (c : Nat) : Nat := if atB x y X2 Y2 a2 b2 then pixF zs X2 Y2 a2 b2 x y c else pixF xs X Y a b x y c
theorem overV_paste {xs zs : List Nat} {X Y X2 Y2 : Int} {a b a2 b2 : Nat} (hl : xs.length = 4 * (a * b)) : overV (xs.map cl) zs X Y a b X2 Y2 a2 b2 = madeV (pasteF xs zs X Y a b X2 Y2 a2 b2) X Y a (4 * (a * b)) := by
  unfold overV mixL madeV
  apply List.map_congr_left
  intro i hi
  have hi := List.mem_range.1 hi
  have h1 := madeF_pix (xs := xs) (x := X) (y := Y) hi (fun c q => q c)
  unfold madeF at h1
  unfold madeF pasteF
  split
  · rename_i h; first | rfl | rw [if_pos h]
  · rename_i h; try rw [if_neg h]
    refine Eq.trans ?_ h1.symm
    simp only [List.getD, List.getElem?_map]
    rw [show 4 * (i / 4) + i % 4 = i by omega, List.getElem?_eq_getElem (show i < xs.length by omega)]
    rfl
theorem overV_cut {ys zs : List Nat} {X Y X2 Y2 : Int} {a b a2 b2 : Nat} (h1 : X2 ≤ X) (h2 : Y2 ≤ Y) (h3 : X + a ≤ X2 + a2) (h4 : Y + b ≤ Y2 + b2) : overV ys zs X Y a b X2 Y2 a2 b2 = madeV (pixF zs X2 Y2 a2 b2) X Y a (4 * (a * b)) := by
  unfold overV mixL madeV
  apply List.map_congr_left
  intro i hi
  have hi := List.mem_range.1 hi
  have ha : 0 < a := by
    rcases Nat.eq_zero_or_pos a with h0 | h0
    · subst h0; simp at hi
    · exact h0
  have h5 : i / 4 / a < b := by rw [Nat.div_lt_iff_lt_mul ha, Nat.mul_comm]; omega
  have h6 : i / 4 % a < a := Nat.mod_lt _ ha
  refine if_pos ?_
  show atB _ _ _ _ _ _ = true
  unfold atB
  apply decide_eq_true
  generalize i / 4 / a = r at *
  generalize i / 4 % a = c at *
  omega
theorem over_at {zs : List Nat} {X Y X2 Y2 : Int} {a a2 b2 p q p2 q2 w j k o1 o2 : Nat} (h1 : o1 = 4 * (a * (q + j) + p)) (h2 : o2 = 4 * (a2 * (q2 + j) + p2)) (hx : X + p = X2 + p2) (hy : Y + q = Y2 + q2) (hk : k < 4 * w) (hp : p + w ≤ a) (hp2 : p2 + w ≤ a2) (hj : q2 + j < b2) :
    cl (zs.getD (o2 + k) 0) = madeF (pixF zs X2 Y2 a2 b2) X Y a (o1 + k) := by
  have e1 : o1 + k = 4 * (a * (q + j) + (p + k / 4)) + k % 4 := by omega
  have e2 : o2 + k = 4 * ((q2 + j) * a2 + (p2 + k / 4)) + k % 4 := by rw [h2, Nat.mul_comm a2]; omega
  rw [e1, madeF_at (by omega) (by omega), e2]
  have e3 : X + ((p + k / 4 : Nat) : Int) = X2 + ((p2 + k / 4 : Nat) : Int) := by omega
  have e4 : Y + ((q + j : Nat) : Int) = Y2 + ((q2 + j : Nat) : Int) := by omega
  rw [e3, e4, pixF_at (near_in (by omega) (by omega)) (near_in (by omega) (by omega))]
theorem over_done {ys zs : List Nat} {X Y X2 Y2 : Int} {a b a2 b2 p q w h : Nat} (hp : max X X2 = X + p) (hq : max Y Y2 = Y + q) (hw : min (X + a) (X2 + a2) = X + p + w) (hh : min (Y + b) (Y2 + b2) = Y + q + h) :
    mixL (4 * (a * b)) (inP a p w q h 0) (madeF (pixF zs X2 Y2 a2 b2) X Y a) ys = overV ys zs X Y a b X2 Y2 a2 b2 := mixL_congr fun _ hi => inP_all hi hp hq hw hh
theorem over_row (N a p w q j : Nat) (f : Nat → Nat) (ys : List Nat) : mixL N (inP a p w q (j + 1) 0) f ys = mixL N (inP a p w q j (4 * w)) f ys := mixL_congr fun i _ => (inP_row i).symm
theorem over_set {N a p w q j k o x : Nat} {f : Nat → Nat} {ys : List Nat} (ho : o = 4 * (a * (q + j) + p)) (hp : p + w ≤ a) (hk : k < 4 * w) (hx : x = f (o + k)) :
    ((mixL N (inP a p w q j k) f ys).map flt).set (o + k) (flt x) = (mixL N (inP a p w q j (k + 1)) f ys).map flt := by
  rw [mixL_set hx]
  congr 1
  refine mixL_congr fun i _ => ?_
  rw [← inP_step hp hk i, show o + k = 4 * (a * (q + j) + (p + k / 4)) + k % 4 by omega]
theorem over_zero {N a p w q : Nat} {f : Nat → Nat} {ys : List Nat} (hl : ys.length = N) : mixL N (inP a p w q 0 0) f ys = ys := mixL_none hl fun i _ => inP_zero a p w q i
/-- where two frames meet -/
structure Meets (X Y : Int) (a b : Nat) (X2 Y2 : Int) (a2 b2 : Nat) (p q p2 q2 w h : Nat) : Prop where
  x : X + p = X2 + p2
  y : Y + q = Y2 + q2
  w1 : 1 ≤ w
  h1 : 1 ≤ h
  pa : p + w ≤ a
  pa2 : p2 + w ≤ a2
  qb : q + h ≤ b
  qb2 : q2 + h ≤ b2
  mx : max X X2 = X + p
  my : max Y Y2 = Y + q
  mw : min (X + a) (X2 + a2) = X + p + w
  mh : min (Y + b) (Y2 + b2) = Y + q + h
theorem meets {X Y X2 Y2 : Int} {a b a2 b2 : Nat} (h : cmB X Y a b X2 Y2 a2 b2 = true) : ∃ p q p2 q2 w h : Nat, cmT X Y a b X2 Y2 a2 b2 = (X + p, Y + q, (w : Int), (h : Int)) ∧ Meets X Y a b X2 Y2 a2 b2 p q p2 q2 w h := by
  have h0 := h
  unfold cmB at h0
  simp only [Bool.and_eq_true, decide_eq_true_eq] at h0
  unfold cmT
  rw [if_pos h]
  unfold cmw at h0 ⊢
  refine ⟨(max X X2 - X).toNat, (max Y Y2 - Y).toNat, (max X X2 - X2).toNat, (max Y Y2 - Y2).toNat, (min (X + a) (X2 + a2) - max X X2).toNat, (min (Y + b) (Y2 + b2) - max Y Y2).toNat, ?_, ?_⟩
  · simp only [Prod.mk.injEq]; omega
  · constructor <;> omega
theorem apart {X Y X2 Y2 : Int} {a b a2 b2 : Nat} (h : cmB X Y a b X2 Y2 a2 b2 = false) : min (X + a) (X2 + a2) - max X X2 < 1 ∨ min (Y + b) (Y2 + b2) - max Y Y2 < 1 := by
  unfold cmB at h
  rw [Bool.and_eq_false_iff, decide_eq_false_iff_not, decide_eq_false_iff_not] at h
  unfold cmw at h
  omega
/-- a frame of one pixel -/
theorem madeF_fill {p : Nat → Nat} {X Y : Int} {a i : Nat} : madeF (fun _ _ c => p c) X Y a i = cl (p (i % 4)) := rfl
/-- the same numbers are there behind a cleaning -/
theorem madeV_cl (p : Int → Int → Nat → Nat) (X Y : Int) (a m : Nat) : (madeV p X Y a m).map cl = madeV p X Y a m := by
  unfold madeV
  rw [List.map_map]
  apply List.map_congr_left
  intro i _
  exact cl_cl _
end Go.Proofs.YtapcgokcfmklbaaDoor
